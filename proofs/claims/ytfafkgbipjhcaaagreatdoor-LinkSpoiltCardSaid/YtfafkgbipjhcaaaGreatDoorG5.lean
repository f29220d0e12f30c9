/- The table of a packet's fields; Check. Printed by wip/sh/mkG3.py. -/
import Derived.Test.YtfafkgbipjhcaaaGreatDoorG2
set_option linter.unusedVariables false
set_option linter.unusedSimpArgs false
namespace Go.Proofs.YtfafkgbipjhcaaaGreatDoor
open Go.Sh
def putV : Nat → Value
  | 0 => .func (.func 109) #[] #[]
  | 1 => .func (.func 115) #[] #[]
  | 2 => .func (.func 118) #[] #[]
  | 3 => .func (.func 56) #[] #[]
  | 4 => .func (.func 59) #[] #[]
  | 5 => .func (.func 62) #[] #[]
  | 6 => .func (.func 67) #[] #[]
  | 7 => .func (.func 71) #[] #[]
  | 8 => .func (.func 75) #[] #[]
  | 9 => .func (.func 77) #[] #[]
  | 10 => .func (.func 80) #[] #[]
  | _ => .func (.func 85) #[] #[]
def getV : Nat → Value
  | 0 => .func (.func 111) #[] #[]
  | 1 => .func (.func 116) #[] #[]
  | 2 => .func (.func 119) #[] #[]
  | 3 => .func (.func 57) #[] #[]
  | 4 => .func (.func 60) #[] #[]
  | 5 => .func (.func 64) #[] #[]
  | 6 => .func (.func 68) #[] #[]
  | 7 => .func (.func 73) #[] #[]
  | 8 => .func (.func 76) #[] #[]
  | 9 => .func (.func 78) #[] #[]
  | 10 => .func (.func 82) #[] #[]
  | _ => .func (.func 87) #[] #[]
def rtV : Nat → Value
  | 0 => .func (.func 113) #[] #[]
  | 1 => .func (.func 117) #[] #[]
  | 2 => .func (.func 120) #[] #[]
  | 3 => .func (.func 58) #[] #[]
  | 4 => .func (.func 61) #[] #[]
  | 5 => .func (.func 66) #[] #[]
  | 6 => .func (.func 69) #[] #[]
  | 7 => .func (.func 54) #[] #[]
  | 8 => .func (.func 54) #[] #[]
  | 9 => .func (.func 79) #[] #[]
  | 10 => .func (.func 84) #[] #[]
  | _ => .func (.func 89) #[] #[]
def fld (i : Nat) : List Value := [.int .i64 ((2 ^ i : Nat) : Int), putV i, getV i, rtV i]
theorem fun_one {i : Nat} (hi : i < 12) : (putV i).oneCell' = true ∧ (getV i).oneCell' = true ∧ (rtV i).oneCell' = true := by
  obtain rfl | rfl | rfl | rfl | rfl | rfl | rfl | rfl | rfl | rfl | rfl | rfl := lt12 hi <;> exact ⟨rfl, rfl, rfl⟩
theorem fld_ones {i : Nat} (hi : i < 12) : ones (fld i) := by
  obtain ⟨h1, h2, h3⟩ := fun_one hi
  intro u hu
  simp only [fld, List.mem_cons, List.not_mem_nil, or_false] at hu
  rcases hu with rfl | rfl | rfl | rfl <;> first | assumption | rfl
def flds : List (List Value) := [fld 0, fld 1, fld 2, fld 3, fld 4, fld 5, fld 6, fld 7, fld 8, fld 9, fld 10, fld 11]
theorem flds_at {i : Nat} (hi : i < 12) : flds[i]? = some (fld i) := by
  obtain rfl | rfl | rfl | rfl | rfl | rfl | rfl | rfl | rfl | rfl | rfl | rfl := lt12 hi <;> rfl
theorem flds_len : ∀ c ∈ flds, c.length = 4 := by
  intro c hc
  obtain ⟨i, hi⟩ := List.getElem?_of_mem hc
  have hl : i < 12 := (List.getElem?_eq_some_iff.1 hi).1
  rw [flds_at hl] at hi
  injection hi with hi
  subst hi
  rfl
theorem flds_cut {i : Nat} (hi : i < 12) : (flds.flatten.drop (i * 4)).take 4 = fld i := by
  have h := flatten_cut flds_len i hi
  rw [h]
  have := flds_at hi
  rw [List.getElem?_eq_getElem hi] at this
  injection this
section
variable (Z : List PanicEntry → World → Prop) {o w : World} {R As : List HProp} {g : Nat} {p : Pk} {K : Nat}
theorem numbersC (h : St o w R) : CallV Tryz.prog Z 55 #[] w fun r w' => St o w' (own 83 4 r 3 ([fld 0, fld 1, fld 2].flatten) :: R) := by
  refine f55.calls ?_
  unfold f55.sh
  refine r_build (cells := (fld 0).toArray) (by kernel_rfl) ?_
  refine r_build (cells := (fld 1).toArray) (by kernel_rfl) ?_
  refine r_build (cells := (fld 2).toArray) (by kernel_rfl) ?_
  refine r_sliceN el77 h 3 _ [fld 0, fld 1, fld 2] rfl (by omega) (by omega) (by omega) (fun v hv => ?_) rfl fun g w1 hS => hS
  simp only [List.mem_cons, List.not_mem_nil, or_false] at hv
  rcases hv with rfl | rfl | rfl <;> rfl
theorem fieldsC (h : St o w R) : CallV Tryz.prog Z 29 #[] w fun r w' => St o w' (own 83 4 r 12 flds.flatten :: R) := by
  refine f29.calls ?_
  unfold f29.sh
  refine (numbersC Z h).mono fun r w1 hS => ?_
  refine r_build (cells := (fld 3).toArray) (by kernel_rfl) ?_
  refine r_build (cells := (fld 4).toArray) (by kernel_rfl) ?_
  refine r_build (cells := (fld 5).toArray) (by kernel_rfl) ?_
  refine r_build (cells := (fld 6).toArray) (by kernel_rfl) ?_
  refine r_build (cells := (fld 7).toArray) (by kernel_rfl) ?_
  refine r_build (cells := (fld 8).toArray) (by kernel_rfl) ?_
  refine r_build (cells := (fld 9).toArray) (by kernel_rfl) ?_
  refine r_build (cells := (fld 10).toArray) (by kernel_rfl) ?_
  refine r_build (cells := (fld 11).toArray) (by kernel_rfl) ?_
  have hon : ∀ v ∈ [fld 3, fld 4, fld 5, fld 6, fld 7, fld 8, fld 9, fld 10, fld 11], v.length = 4 ∧ ones v := fun v hv => by
    simp only [List.mem_cons, List.not_mem_nil, or_false] at hv
    rcases hv with rfl | rfl | rfl | rfl | rfl | rfl | rfl | rfl | rfl <;> exact ⟨rfl, fld_ones (by omega)⟩
  refine r_sliceN el77 hS 9 _ [fld 3, fld 4, fld 5, fld 6, fld 7, fld 8, fld 9, fld 10, fld 11] rfl (by omega) (by omega) (by omega) (fun v hv => (hon v hv).1) rfl fun g w2 hS => ?_
  have hsrc := (hS.own_rd m0).src Tryz.underlying77 (fun u hu => by
    obtain ⟨v, hv, hu⟩ := List.mem_flatten.1 hu
    exact (hon v hv).2 u hu)
  refine r_append el77 hS.swap hsrc (by omega) (by simp only [maxLen]; omega) fun v' w3 hS => ?_
  exact hS.swap.drop
noncomputable def okP (p : Pk) : Bool := isKd p.kd && (bareB p.kd.toNat p && (List.range 12).all fun i => !hasF p.kd.toNat i || rt p i)
theorem rightAt {kk : Value → World → Prop} {i : Nat} (hi : i < 12) (hN : Names o) (ho : old o ∈ R) (hx : Ent o R fun w => RdP w p) (h : St o w (blk g 39 p.cells :: R))
    (hk : ∀ w', St o w' (blk g 39 p.cells :: R) → kk (.bool (rt p i)) w') : runX Tryz.prog Z (callVal (rtV i) #[.pointer (some ⟨g, 0, none⟩)]) w kk := by
  have fin : ∀ r w', r = Value.bool (rt p i) ∧ St o w' (blk g 39 p.cells :: R) → kk r w' := fun r w' ⟨hr, hS⟩ => by subst hr; exact hk w' hS
  obtain rfl | rfl | rfl | rfl | rfl | rfl | rfl | rfl | rfl | rfl | rfl | rfl := lt12 hi
  · exact r_callVal en113 (l1 := []) (l2 := [_]) (l3 := []) rfl rfl rfl ((right0 Z h).mono fin)
  · exact r_callVal en117 (l1 := []) (l2 := [_]) (l3 := []) rfl rfl rfl ((right1 Z h).mono fin)
  · exact r_callVal en120 (l1 := []) (l2 := [_]) (l3 := []) rfl rfl rfl ((right2 Z h).mono fin)
  · exact r_callVal en58 (l1 := []) (l2 := [_]) (l3 := []) rfl rfl rfl ((right3 Z h).mono fin)
  · exact r_callVal en61 (l1 := []) (l2 := [_]) (l3 := []) rfl rfl rfl ((right4 Z h).mono fin)
  · exact r_callVal en66 (l1 := []) (l2 := [_]) (l3 := []) rfl rfl rfl ((right5 Z h).mono fin)
  · exact r_callVal en69 (l1 := []) (l2 := [_]) (l3 := []) rfl rfl rfl ((right6 Z h).mono fin)
  · exact r_callVal en54 (l1 := []) (l2 := [_]) (l3 := []) rfl rfl rfl ((right7 Z h).mono fin)
  · exact r_callVal en54 (l1 := []) (l2 := [_]) (l3 := []) rfl rfl rfl (((show CallV Tryz.prog Z 54 #[.pointer (some ⟨g, 0, none⟩)] w (fun r w' => r = .bool (rt p 8) ∧ St o w' (blk g 39 p.cells :: R)) from right7 Z h)).mono fin)
  · exact r_callVal en79 (l1 := []) (l2 := [_]) (l3 := []) rfl rfl rfl ((right9 Z hN ho hx h).mono fin)
  · exact r_callVal en84 (l1 := []) (l2 := [_]) (l3 := []) rfl rfl rfl ((right10 Z hx h).mono fin)
  · exact r_callVal en89 (l1 := []) (l2 := [_]) (l3 := []) rfl rfl rfl ((right11 Z h).mono fin)
theorem okP_iff : okP p = true ↔ isKd p.kd = true ∧ bareB p.kd.toNat p = true ∧ ∀ i, i < 12 → hasF p.kd.toNat i = true → rt p i = true := by
  unfold okP
  simp only [Bool.and_eq_true, List.all_eq_true, List.mem_range, Bool.or_eq_true, Bool.not_eq_true']
  constructor
  · rintro ⟨h1, h2, h3⟩
    exact ⟨h1, h2, fun i hi hh => (h3 i hi).resolve_left (by rw [hh]; simp)⟩
  · rintro ⟨h1, h2, h3⟩
    refine ⟨h1, h2, fun i hi => ?_⟩
    cases hh : hasF p.kd.toNat i with
    | true => exact .inr (h3 i hi hh)
    | false => exact .inl rfl
theorem isKd_le {kd : Int} (h : isKd kd = true) : kd.toNat ≤ 14 := by simp [isKd] at h; omega
set_option maxRecDepth 100000 in
theorem chkP (hN : Names o) (hM : Named o) (ho : old o ∈ R) (hx : Ent o R fun w => RdP w p) (h : St o w R) : CallV Tryz.prog Z 26 #[.agg p.cells.toArray] w fun r w' => r = .int .i64 (if okP p then 0 else 150) ∧ St o w' R := by
  refine f26.calls ?_
  unfold f26.sh
  refine r_box _ _ h fun g w1 hS => ?_
  have hS : St o w1 (blk g 39 p.cells :: R) := hS
  have bad : ∀ {w : World}, okP p = false → St o w R → Value.int .i64 150 = .int .i64 (if okP p then 0 else 150) ∧ St o w R := fun hf hS => ⟨by rw [hf]; rfl, hS⟩
  (try simp only [fa_39_0, Nat.add_zero])
  refine r_load one22 (hS.at m0 0 rfl) ?_
  refine (pnames Z p.kd hM (by simp [ho]) hS).mono fun r w2 ⟨hr, hw⟩ => ?_
  subst hr; subst hw
  cases hkd : isKd p.kd with
  | false =>
    (try simp only [o_ext2_1, o_not, Bool.not_false, o_pickT, condT, guardW_tf, o_ext2_0])
    exact bad (by rw [okP, hkd]; rfl) hS.drop
  | true =>
    have hK := isKd_le hkd
    simp only [if_true]
    (try simp only [o_ext2_1, o_not, Bool.not_true, o_pickF, guardW_ff, o_ext2_0])
    refine r_loadN ag39 (xs := p.cells) rfl (hS.cells_at m0 0 (whole_at _)) ?_
    refine (bareC Z hK (fun w hw => hx w hw.drop) hS).mono fun r w3 ⟨hr, hS⟩ => ?_
    subst hr
    by_cases hbare : bareB p.kd.toNat p = true
    · rw [hbare]
      (try simp only [o_not, Bool.not_true, condF])
      refine (fieldsC Z hS).mono fun r w4 hS => ?_
      obtain ⟨a, c, e⟩ := hS.own_form
      subst e
      (try simp only [ln_77_3])
      refine ⟨fun m y w' => ∃ i : Nat, y = .int .i64 i ∧ m + i = 12 ∧ (∀ j, j < i → hasF p.kd.toNat j = true → rt p j = true) ∧ St o w' (own 83 4 (.slice a 12 c) 12 flds.flatten :: blk g 39 p.cells :: R), ⟨12, 0, rfl, rfl, fun j hj => by omega, hS⟩, ?_⟩
      clear hS
      rintro m _ w5 ⟨i, rfl, hi, hall, hS⟩ _
      by_cases hlt : (i : Int) < ((12 : Nat) : Int)
      · have hil : i < 12 := by omega
        (try simp only [o_add, o_lss, hlt, decide_true, condT])
        obtain ⟨b, q, hp, hc⟩ := (hS.own_rd m0).adr el77 .i64 i hil
        have hcc : ∀ j v, (fld i)[j]? = some v → w5.cell? ((⟨b, q, none⟩ : Addr).add j) = some v := fun j v hv => by
          rw [add_addr]
          exact hc w5 (hS.own_rd m0) j v (by rw [flds_cut hil]; exact hv)
        have HJ : ∀ w', (hasF p.kd.toNat i = true → rt p i = true) → St o w' (own 83 4 (.slice a 12 c) 12 flds.flatten :: blk g 39 p.cells :: R) →
            ∃ n, n < m ∧ ∃ i1 : Nat, Value.int .i64 (IntKind.i64.wrap ((i : Int) + 1)) = .int .i64 i1 ∧ n + i1 = 12 ∧ (∀ j, j < i1 → hasF p.kd.toNat j = true → rt p j = true) ∧ St o w' (own 83 4 (.slice a 12 c) 12 flds.flatten :: blk g 39 p.cells :: R) := fun w' hh hS => by
          rw [wr_i64 (x := (i : Int) + 1) (by omega) (by omega)]
          refine ⟨m - 1, by omega, i + 1, rfl, by omega, fun j hj => ?_, hS⟩
          by_cases e : j = i
          · subst e; exact hh
          · exact hall j (by omega)
        refine r1 (hp _) (r_loadN ag83 (xs := fld i) rfl hcc ?_)
        refine r_alloc hS ze83 fun gf w6 hS => ?_
        refine r_storeN hS ag83 (xs := fld i) rfl (show 0 + 4 ≤ 4 from Nat.le_refl _) (fld_ones hil) fun w7 hS => ?_
        rw [setL_all _ _ (by rfl)] at hS
        (try simp only [fa_83_3, Nat.zero_add, fa_83_0, Nat.add_zero])
        refine r_load one3 (hS.at m0 0 rfl) ?_
        obtain ⟨v, hv, _, hv1⟩ := andB p.kd.toNat i hK (by omega) ((2 ^ i : Nat) : Int) rfl
        refine r1 (hv _ _) ?_
        refine r1 (run_neq_int _ _ _ _ _ _ _ _) ?_
        rw [hv1]
        by_cases hh : hasF p.kd.toNat i = true
        · rw [hh]
          (try simp only [o_pickT, guardW_true])
          refine r_load one81 (hS.at m0 3 rfl) ?_
          refine rightAt Z hil hN (R := own 83 4 (.slice a 12 c) 12 flds.flatten :: blk gf 83 (fld i) :: R) (by simp [ho]) (fun w hw => hx w hw.drop.drop) (hS.pick 2 |>.swap.swap |> fun h => by (refine Sh.St.sub ?_ (h); repeat (first | with_reducible exact sub_refl | with_reducible exact sub_nil | with_reducible refine sub_p0 ?_ | with_reducible refine sub_p1 ?_ | with_reducible refine sub_p2 ?_ | with_reducible refine sub_p3 ?_ | with_reducible refine sub_p4 ?_ | with_reducible refine sub_p5 ?_ | with_reducible refine sub_p6 ?_ | with_reducible refine sub_p7 ?_ | with_reducible refine sub_p8 ?_ | with_reducible refine sub_p9 ?_ | with_reducible refine sub_p10 ?_ | with_reducible refine sub_p11 ?_ | with_reducible refine sub_p12 ?_ | with_reducible refine sub_p13 ?_ | with_reducible refine sub_p14 ?_ | with_reducible refine sub_p15 ?_ | exact sub_refl | refine sub_p0 ?_ | refine sub_p1 ?_ | refine sub_p2 ?_ | refine sub_p3 ?_ | refine sub_p4 ?_ | refine sub_p5 ?_ | refine sub_p6 ?_ | refine sub_p7 ?_ | refine sub_p8 ?_ | refine sub_p9 ?_ | refine sub_p10 ?_ | refine sub_p11 ?_ | refine sub_p12 ?_ | refine sub_p13 ?_ | refine sub_p14 ?_ | refine sub_p15 ?_ | refine sub_drop ?_))) fun w8 hS => ?_
          cases hr : rt p i with
          | true =>
            (try simp only [o_not, Bool.not_true, condF])
            exact HJ _ (fun _ => hr) (by (refine Sh.St.sub ?_ (hS); repeat (first | with_reducible exact sub_refl | with_reducible exact sub_nil | with_reducible refine sub_p0 ?_ | with_reducible refine sub_p1 ?_ | with_reducible refine sub_p2 ?_ | with_reducible refine sub_p3 ?_ | with_reducible refine sub_p4 ?_ | with_reducible refine sub_p5 ?_ | with_reducible refine sub_p6 ?_ | with_reducible refine sub_p7 ?_ | with_reducible refine sub_p8 ?_ | with_reducible refine sub_p9 ?_ | with_reducible refine sub_p10 ?_ | with_reducible refine sub_p11 ?_ | with_reducible refine sub_p12 ?_ | with_reducible refine sub_p13 ?_ | with_reducible refine sub_p14 ?_ | with_reducible refine sub_p15 ?_ | exact sub_refl | refine sub_p0 ?_ | refine sub_p1 ?_ | refine sub_p2 ?_ | refine sub_p3 ?_ | refine sub_p4 ?_ | refine sub_p5 ?_ | refine sub_p6 ?_ | refine sub_p7 ?_ | refine sub_p8 ?_ | refine sub_p9 ?_ | refine sub_p10 ?_ | refine sub_p11 ?_ | refine sub_p12 ?_ | refine sub_p13 ?_ | refine sub_p14 ?_ | refine sub_p15 ?_ | refine sub_drop ?_)))
          | false =>
            (try simp only [o_not, Bool.not_false, condT])
            refine bad ?_ (by (refine Sh.St.sub ?_ (hS); repeat (first | with_reducible exact sub_refl | with_reducible exact sub_nil | with_reducible refine sub_p0 ?_ | with_reducible refine sub_p1 ?_ | with_reducible refine sub_p2 ?_ | with_reducible refine sub_p3 ?_ | with_reducible refine sub_p4 ?_ | with_reducible refine sub_p5 ?_ | with_reducible refine sub_p6 ?_ | with_reducible refine sub_p7 ?_ | with_reducible refine sub_p8 ?_ | with_reducible refine sub_p9 ?_ | with_reducible refine sub_p10 ?_ | with_reducible refine sub_p11 ?_ | with_reducible refine sub_p12 ?_ | with_reducible refine sub_p13 ?_ | with_reducible refine sub_p14 ?_ | with_reducible refine sub_p15 ?_ | exact sub_refl | refine sub_p0 ?_ | refine sub_p1 ?_ | refine sub_p2 ?_ | refine sub_p3 ?_ | refine sub_p4 ?_ | refine sub_p5 ?_ | refine sub_p6 ?_ | refine sub_p7 ?_ | refine sub_p8 ?_ | refine sub_p9 ?_ | refine sub_p10 ?_ | refine sub_p11 ?_ | refine sub_p12 ?_ | refine sub_p13 ?_ | refine sub_p14 ?_ | refine sub_p15 ?_ | refine sub_drop ?_)))
            cases ho2 : okP p with
            | false => rfl
            | true => exact absurd ((okP_iff.1 ho2).2.2 i hil hh) (by rw [hr]; simp)
        · have hh : hasF p.kd.toNat i = false := by simpa using hh
          rw [hh]
          (try simp only [o_pickF, condF, guardW_ft])
          exact HJ _ (fun h => by rw [hh] at h; cases h) hS.drop
      · (try simp only [o_add, o_lss, hlt, decide_false, condF])
        have hok : okP p = true := okP_iff.2 ⟨hkd, hbare, fun j hj => hall j (by omega)⟩
        exact ⟨by rw [hok]; rfl, hS.drop.drop⟩
    · have hbare : bareB p.kd.toNat p = false := by simpa using hbare
      rw [hbare]
      (try simp only [o_not, Bool.not_false, condT])
      exact bad (by rw [okP, hkd, hbare]; rfl) hS.drop
end
end Go.Proofs.YtfafkgbipjhcaaaGreatDoor

/- A packet's bytes; Write. Printed by wip/sh/mkG4.py. -/
set_option linter.unusedVariables false
set_option linter.unusedSimpArgs false
namespace Go.Proofs.YtfafkgbipjhcaaaGreatDoor
open Go.Sh
def fb (p : Pk) : Nat → List UInt8
  | 0 => enc 4 p.cb ++ enc 4 p.ct
  | 1 => enc 4 p.lb ++ enc 4 p.lt
  | 2 => enc 8 p.pl
  | 3 => enc 4 p.ep
  | 4 => enc 4 p.cu
  | 5 => enc 4 p.ze ++ enc 4 p.zn
  | 6 => enc 4 p.ve ++ enc 4 p.vn
  | 7 => encB p.co
  | 8 => encB p.fi
  | 9 => encL (txB p.t)
  | 10 => encL p.b
  | _ => enc 8 p.se
def fpre (K : Nat) (p : Pk) : Nat → List UInt8
  | 0 => enc 1 p.kd
  | i + 1 => fpre K p i ++ (if hasF K i then fb p i else [])
def body (p : Pk) : List UInt8 := fpre p.kd.toNat p 12
def summed (l : List UInt8) : List UInt8 := enc 4 (adler l) ++ l
def pkB (p : Pk) : List UInt8 := summed (body p)
theorem fb_len {p : Pk} {i : Nat} (hi : i < 12) (hr : rt p i = true) (hw : WfP p) : (fb p i).length ≤ 4200 := by
  obtain rfl | rfl | rfl | rfl | rfl | rfl | rfl | rfl | rfl | rfl | rfl | rfl := lt12 hi
  case inr.inr.inr.inr.inr.inr.inr.inr.inr.inl =>
    have hc : chkT p.t = true := by
      have h : (chkT p.t && (if p.kd = 13 then ((p.t.e == 0) && (p.t.n == 0)) && decide (0 < p.t.nu) else decide (cmpZ p.ve p.vn p.t.e p.t.n < 0))) = true := hr
      exact (Bool.and_eq_true_iff.1 h).1
    have := txB_len hc
    show (encL (txB p.t)).length ≤ 4200
    rw [encL_len]; omega
  case inr.inr.inr.inr.inr.inr.inr.inr.inr.inr.inl =>
    have h : (decide (0 < (p.b.length : Int)) && decide ((p.b.length : Int) ≤ 4096)) = true := hr
    have h2 := of_decide_eq_true (Bool.and_eq_true_iff.1 h).2
    show (encL p.b).length ≤ 4200
    rw [encL_len]; omega
  all_goals (simp only [fb, List.length_append, enc_length, encB, List.length_cons, List.length_nil]; omega)
theorem fpre_len {p : Pk} (hok : okP p = true) (hw : WfP p) : ∀ i, i ≤ 12 → (fpre p.kd.toNat p i).length ≤ 1 + i * 4200
  | 0, _ => by simp [fpre, enc_length]
  | i + 1, hi => by
    have h1 := fpre_len hok hw i (by omega)
    rw [fpre, List.length_append]
    cases hh : hasF p.kd.toNat i with
    | true =>
      have := fb_len (by omega) ((okP_iff.1 hok).2.2 i (by omega) hh) hw
      simp only [if_true]; omega
    | false =>
      simp only [if_neg Bool.false_ne_true, List.length_nil, Nat.add_zero]
      exact Nat.le_trans h1 (Nat.add_le_add_left (Nat.mul_le_mul_right _ (Nat.le_succ i)) 1)
theorem adler_lt (l : List UInt8) : adler l < 4294967296 := by
  have h := adl_lt l (1, 0) (by decide) (by decide)
  unfold adler; omega
section
variable (Z : List PanicEntry → World → Prop) {o w : World} {R As : List HProp} {g gw : Nat} {p : Pk} {K : Nat} {l : List UInt8}
theorem putConnC (a b : Int) (hl : l.length ≤ 1000000) (h : St o w (Wr gw l :: R)) : CallV Tryz.prog Z 110 #[.pointer (some ⟨gw, 0, none⟩), .agg (zx a b).toArray] w fun r w' => St o w' (Wr gw (l ++ (enc 4 a ++ enc 4 b)) :: R) := by
  refine f110.calls ?_
  unfold f110.sh
  refine r_box _ _ h fun g w1 hS => ?_
  have hS : St o w1 (blk g 25 (zx a b) :: Wr gw l :: R) := hS
  (try simp only [fa_25_1, Nat.zero_add, fa_25_0, Nat.add_zero])
  refine r_load one23 (hS.at m0 0 rfl) ?_
  refine (wUint32 Z a (by omega) hS.swap).mono fun r w2 hS => ?_
  skip
  refine r_load one23 (hS.at m1 1 rfl) ?_
  refine (wUint32 Z b (by simp [enc_length]; omega) hS).mono fun r w3 hS => ?_
  rw [← List.append_assoc]
  exact hS.swap.drop
theorem putZxidC (a b : Int) (hl : l.length ≤ 1000000) (h : St o w (Wr gw l :: R)) : CallV Tryz.prog Z 63 #[.pointer (some ⟨gw, 0, none⟩), .agg (zx a b).toArray] w fun r w' => St o w' (Wr gw (l ++ (enc 4 a ++ enc 4 b)) :: R) := by
  refine f63.calls ?_
  unfold f63.sh
  refine r_box _ _ h fun g w1 hS => ?_
  have hS : St o w1 (blk g 27 (zx a b) :: Wr gw l :: R) := hS
  (try simp only [fa_27_1, Nat.zero_add, fa_27_0, Nat.add_zero])
  refine r_load one23 (hS.at m0 0 rfl) ?_
  refine (wUint32 Z a (by omega) hS.swap).mono fun r w2 hS => ?_
  skip
  refine r_load one23 (hS.at m1 1 rfl) ?_
  refine (wUint32 Z b (by simp [enc_length]; omega) hS).mono fun r w3 hS => ?_
  rw [← List.append_assoc]
  exact hS.swap.drop
theorem put0 (hl : l.length ≤ 900000) (h : St o w (blk g 39 p.cells :: Wr gw l :: R)) : CallV Tryz.prog Z 109 #[.pointer (some ⟨gw, 0, none⟩), .pointer (some ⟨g, 0, none⟩)] w fun r w' => St o w' (blk g 39 p.cells :: Wr gw (l ++ fb p 0) :: R) := by
  refine f109.calls ?_
  unfold f109.sh
  (try simp only [o_chk, fa_39_1, Nat.zero_add])
  refine r_loadN ag25 (xs := zx p.cb p.ct) rfl (h.cells_at m0 1 (pk_two ⟨rfl, rfl⟩)) ?_
  refine (putConnC Z p.cb p.ct (by omega) h.swap).mono fun r w1 hS => ?_
  exact hS.swap
theorem put1 (hl : l.length ≤ 900000) (h : St o w (blk g 39 p.cells :: Wr gw l :: R)) : CallV Tryz.prog Z 115 #[.pointer (some ⟨gw, 0, none⟩), .pointer (some ⟨g, 0, none⟩)] w fun r w' => St o w' (blk g 39 p.cells :: Wr gw (l ++ fb p 1) :: R) := by
  refine f115.calls ?_
  unfold f115.sh
  (try simp only [o_chk, fa_39_2, Nat.zero_add])
  refine r_loadN ag25 (xs := zx p.lb p.lt) rfl (h.cells_at m0 3 (pk_two ⟨rfl, rfl⟩)) ?_
  refine (putConnC Z p.lb p.lt (by omega) h.swap).mono fun r w1 hS => ?_
  exact hS.swap
theorem put2 (hl : l.length ≤ 900000) (h : St o w (blk g 39 p.cells :: Wr gw l :: R)) : CallV Tryz.prog Z 118 #[.pointer (some ⟨gw, 0, none⟩), .pointer (some ⟨g, 0, none⟩)] w fun r w' => St o w' (blk g 39 p.cells :: Wr gw (l ++ fb p 2) :: R) := by
  refine f118.calls ?_
  unfold f118.sh
  (try simp only [o_chk, fa_39_3, Nat.zero_add])
  refine r_load one2 (h.at m0 5 rfl) ?_
  refine (wInt64 Z p.pl (by omega) h.swap).mono fun r w1 hS => ?_
  exact hS.swap
theorem put3 (hl : l.length ≤ 900000) (h : St o w (blk g 39 p.cells :: Wr gw l :: R)) : CallV Tryz.prog Z 56 #[.pointer (some ⟨gw, 0, none⟩), .pointer (some ⟨g, 0, none⟩)] w fun r w' => St o w' (blk g 39 p.cells :: Wr gw (l ++ fb p 3) :: R) := by
  refine f56.calls ?_
  unfold f56.sh
  (try simp only [o_chk, fa_39_4, Nat.zero_add])
  refine r_load one23 (h.at m0 6 rfl) ?_
  refine (wUint32 Z p.ep (by omega) h.swap).mono fun r w1 hS => ?_
  exact hS.swap
theorem put4 (hl : l.length ≤ 900000) (h : St o w (blk g 39 p.cells :: Wr gw l :: R)) : CallV Tryz.prog Z 59 #[.pointer (some ⟨gw, 0, none⟩), .pointer (some ⟨g, 0, none⟩)] w fun r w' => St o w' (blk g 39 p.cells :: Wr gw (l ++ fb p 4) :: R) := by
  refine f59.calls ?_
  unfold f59.sh
  (try simp only [o_chk, fa_39_5, Nat.zero_add])
  refine r_load one23 (h.at m0 7 rfl) ?_
  refine (wUint32 Z p.cu (by omega) h.swap).mono fun r w1 hS => ?_
  exact hS.swap
theorem put5 (hl : l.length ≤ 900000) (h : St o w (blk g 39 p.cells :: Wr gw l :: R)) : CallV Tryz.prog Z 62 #[.pointer (some ⟨gw, 0, none⟩), .pointer (some ⟨g, 0, none⟩)] w fun r w' => St o w' (blk g 39 p.cells :: Wr gw (l ++ fb p 5) :: R) := by
  refine f62.calls ?_
  unfold f62.sh
  (try simp only [o_chk, fa_39_6, Nat.zero_add])
  refine r_loadN ag27 (xs := zx p.ze p.zn) rfl (h.cells_at m0 8 (pk_two ⟨rfl, rfl⟩)) ?_
  refine (putZxidC Z p.ze p.zn (by omega) h.swap).mono fun r w1 hS => ?_
  exact hS.swap
theorem put6 (hl : l.length ≤ 900000) (h : St o w (blk g 39 p.cells :: Wr gw l :: R)) : CallV Tryz.prog Z 67 #[.pointer (some ⟨gw, 0, none⟩), .pointer (some ⟨g, 0, none⟩)] w fun r w' => St o w' (blk g 39 p.cells :: Wr gw (l ++ fb p 6) :: R) := by
  refine f67.calls ?_
  unfold f67.sh
  (try simp only [o_chk, fa_39_7, Nat.zero_add])
  refine r_loadN ag27 (xs := zx p.ve p.vn) rfl (h.cells_at m0 10 (pk_two ⟨rfl, rfl⟩)) ?_
  refine (putZxidC Z p.ve p.vn (by omega) h.swap).mono fun r w1 hS => ?_
  exact hS.swap
theorem put7 (hl : l.length ≤ 900000) (h : St o w (blk g 39 p.cells :: Wr gw l :: R)) : CallV Tryz.prog Z 71 #[.pointer (some ⟨gw, 0, none⟩), .pointer (some ⟨g, 0, none⟩)] w fun r w' => St o w' (blk g 39 p.cells :: Wr gw (l ++ fb p 7) :: R) := by
  refine f71.calls ?_
  unfold f71.sh
  (try simp only [o_chk, fa_39_8, Nat.zero_add])
  refine r_load one4 (h.at m0 12 rfl) ?_
  refine (wBool Z p.co (by omega) h.swap).mono fun r w1 hS => ?_
  exact hS.swap
theorem put8 (hl : l.length ≤ 900000) (h : St o w (blk g 39 p.cells :: Wr gw l :: R)) : CallV Tryz.prog Z 75 #[.pointer (some ⟨gw, 0, none⟩), .pointer (some ⟨g, 0, none⟩)] w fun r w' => St o w' (blk g 39 p.cells :: Wr gw (l ++ fb p 8) :: R) := by
  refine f75.calls ?_
  unfold f75.sh
  (try simp only [o_chk, fa_39_9, Nat.zero_add])
  refine r_load one4 (h.at m0 13 rfl) ?_
  refine (wBool Z p.fi (by omega) h.swap).mono fun r w1 hS => ?_
  exact hS.swap
theorem put9 (hN : Names o) (ho : old o ∈ R) (hx : Ent o R fun w => RdP w p) (hc : chkT p.t = true) (hl : l.length ≤ 900000) (h : St o w (blk g 39 p.cells :: Wr gw l :: R)) : CallV Tryz.prog Z 77 #[.pointer (some ⟨gw, 0, none⟩), .pointer (some ⟨g, 0, none⟩)] w fun r w' => St o w' (blk g 39 p.cells :: Wr gw (l ++ fb p 9) :: R) := by
  refine f77.calls ?_
  unfold f77.sh
  (try simp only [o_chk, fa_39_10, Nat.zero_add])
  refine r_loadN ag37 (xs := p.t.cells) (Tx.cells_len _) (h.cells_at m0 14 (pk_tx p)) ?_
  refine (writeC Z p.t hN (by simp [ho]) (fun w hw => (hx w hw.drop.drop).t) h).mono fun r w1 hS => ?_
  rw [if_pos hc] at hS
  obtain ⟨v, hr, hS⟩ := hS
  subst hr
  have hlen := txB_len hc
  (try simp only [o_ext2_1, o_neq, bne_self_eq_false, condF, o_ext2_0])
  intro j hj
  skip
  refine hj _ fun _ => ?_
  refine (wBuffer Z (k := txB p.t) (n := (txB p.t).length) (x := v) (Ent.own (e := 5) m0) (by omega) (hS.pick 2)).mono fun r w2 hS => ?_
  show St o w2 (_ :: Wr gw (l ++ encL (txB p.t)) :: R)
  unfold encL
  rw [← List.append_assoc]
  (refine Sh.St.sub ?_ (hS); repeat (first | with_reducible exact sub_refl | with_reducible exact sub_nil | with_reducible refine sub_p0 ?_ | with_reducible refine sub_p1 ?_ | with_reducible refine sub_p2 ?_ | with_reducible refine sub_p3 ?_ | with_reducible refine sub_p4 ?_ | with_reducible refine sub_p5 ?_ | with_reducible refine sub_p6 ?_ | with_reducible refine sub_p7 ?_ | with_reducible refine sub_p8 ?_ | with_reducible refine sub_p9 ?_ | with_reducible refine sub_p10 ?_ | with_reducible refine sub_p11 ?_ | with_reducible refine sub_p12 ?_ | with_reducible refine sub_p13 ?_ | with_reducible refine sub_p14 ?_ | with_reducible refine sub_p15 ?_ | exact sub_refl | refine sub_p0 ?_ | refine sub_p1 ?_ | refine sub_p2 ?_ | refine sub_p3 ?_ | refine sub_p4 ?_ | refine sub_p5 ?_ | refine sub_p6 ?_ | refine sub_p7 ?_ | refine sub_p8 ?_ | refine sub_p9 ?_ | refine sub_p10 ?_ | refine sub_p11 ?_ | refine sub_p12 ?_ | refine sub_p13 ?_ | refine sub_p14 ?_ | refine sub_p15 ?_ | refine sub_drop ?_))
theorem put10 (hx : Ent o R fun w => RdP w p) (hb : p.b.length ≤ 4096) (hl : l.length ≤ 900000) (h : St o w (blk g 39 p.cells :: Wr gw l :: R)) : CallV Tryz.prog Z 80 #[.pointer (some ⟨gw, 0, none⟩), .pointer (some ⟨g, 0, none⟩)] w fun r w' => St o w' (blk g 39 p.cells :: Wr gw (l ++ fb p 10) :: R) := by
  refine f80.calls ?_
  unfold f80.sh
  (try simp only [o_chk, fa_39_11, Nat.zero_add])
  refine r_load one30 (h.at m0 30 rfl) ?_
  refine (wBuffer Z (k := p.b) (n := p.b.length) (x := p.bv) (fun w hw => (hx w hw.drop).b) (by omega) h.swap).mono fun r w2 hS => ?_
  show St o w2 (_ :: Wr gw (l ++ encL p.b) :: R)
  unfold encL
  rw [← List.append_assoc]
  exact hS.swap
theorem put11 (hl : l.length ≤ 900000) (h : St o w (blk g 39 p.cells :: Wr gw l :: R)) : CallV Tryz.prog Z 85 #[.pointer (some ⟨gw, 0, none⟩), .pointer (some ⟨g, 0, none⟩)] w fun r w' => St o w' (blk g 39 p.cells :: Wr gw (l ++ fb p 11) :: R) := by
  refine f85.calls ?_
  unfold f85.sh
  (try simp only [o_chk, fa_39_12, Nat.zero_add])
  refine r_load one2 (h.at m0 31 rfl) ?_
  refine (wInt64 Z p.se (by omega) h.swap).mono fun r w1 hS => ?_
  exact hS.swap
theorem putAt {kk : Value → World → Prop} {i : Nat} (hi : i < 12) (hr : rt p i = true) (hN : Names o) (ho : old o ∈ R) (hx : Ent o R fun w => RdP w p) (hl : l.length ≤ 900000) (h : St o w (blk g 39 p.cells :: Wr gw l :: R))
    (hk : ∀ r w', St o w' (blk g 39 p.cells :: Wr gw (l ++ fb p i) :: R) → kk r w') : runX Tryz.prog Z (callVal (putV i) #[.pointer (some ⟨gw, 0, none⟩), .pointer (some ⟨g, 0, none⟩)]) w kk := by
  obtain rfl | rfl | rfl | rfl | rfl | rfl | rfl | rfl | rfl | rfl | rfl | rfl := lt12 hi
  · exact r_callVal en109 (l1 := []) (l2 := [_, _]) (l3 := []) rfl rfl rfl ((put0 Z hl h).mono hk)
  · exact r_callVal en115 (l1 := []) (l2 := [_, _]) (l3 := []) rfl rfl rfl ((put1 Z hl h).mono hk)
  · exact r_callVal en118 (l1 := []) (l2 := [_, _]) (l3 := []) rfl rfl rfl ((put2 Z hl h).mono hk)
  · exact r_callVal en56 (l1 := []) (l2 := [_, _]) (l3 := []) rfl rfl rfl ((put3 Z hl h).mono hk)
  · exact r_callVal en59 (l1 := []) (l2 := [_, _]) (l3 := []) rfl rfl rfl ((put4 Z hl h).mono hk)
  · exact r_callVal en62 (l1 := []) (l2 := [_, _]) (l3 := []) rfl rfl rfl ((put5 Z hl h).mono hk)
  · exact r_callVal en67 (l1 := []) (l2 := [_, _]) (l3 := []) rfl rfl rfl ((put6 Z hl h).mono hk)
  · exact r_callVal en71 (l1 := []) (l2 := [_, _]) (l3 := []) rfl rfl rfl ((put7 Z hl h).mono hk)
  · exact r_callVal en75 (l1 := []) (l2 := [_, _]) (l3 := []) rfl rfl rfl ((put8 Z hl h).mono hk)
  · exact r_callVal en77 (l1 := []) (l2 := [_, _]) (l3 := []) rfl rfl rfl ((put9 Z hN ho hx (Bool.and_eq_true_iff.1 (show (chkT p.t && (if p.kd = 13 then ((p.t.e == 0) && (p.t.n == 0)) && decide (0 < p.t.nu) else decide (cmpZ p.ve p.vn p.t.e p.t.n < 0))) = true from hr)).1 hl h).mono hk)
  · exact r_callVal en80 (l1 := []) (l2 := [_, _]) (l3 := []) rfl rfl rfl ((put10 Z hx (by have := of_decide_eq_true (Bool.and_eq_true_iff.1 (show (decide (0 < (p.b.length : Int)) && decide ((p.b.length : Int) ≤ 4096)) = true from hr)).2; omega) hl h).mono hk)
  · exact r_callVal en85 (l1 := []) (l2 := [_, _]) (l3 := []) rfl rfl rfl ((put11 Z hl h).mono hk)
set_option maxRecDepth 100000 in
theorem writeP (hN : Names o) (hM : Named o) (ho : old o ∈ R) (hw : WfP p) (hx : Ent o R fun w => RdP w p) (h : St o w R) :
    CallV Tryz.prog Z 7 #[.agg p.cells.toArray] w fun r w' => if okP p then ∃ v, r = .tuple #[v, .int .i64 0] ∧ St o w' (own 5 1 v (pkB p).length (cb (pkB p)) :: R) else r = .tuple #[.slice none 0 0, .int .i64 150] ∧ St o w' R := by
  refine f7.calls ?_
  unfold f7.sh
  refine r_box _ _ h fun g w1 hS => ?_
  have hS : St o w1 (blk g 39 p.cells :: R) := hS
  refine r_loadN ag39 (xs := p.cells) rfl (hS.cells_at m0 0 (whole_at _)) ?_
  refine (chkP Z hN hM (by simp [ho]) (fun w hw => hx w hw.drop) hS).mono fun r w2 ⟨hr, hS⟩ => ?_
  subst hr
  cases hok : okP p with
  | false =>
    rw [if_neg Bool.false_ne_true]
    have h150 : ((150 : Int) != 0) = true := rfl
    (try simp only [fa_39_0, Nat.add_zero, o_neq, h150, condT])
    rw [if_neg Bool.false_ne_true]
    exact ⟨by first | rfl | trivial, hS.drop⟩
  | true =>
    obtain ⟨hkd, hbare, hall⟩ := okP_iff.1 hok
    have hK := isKd_le hkd
    rw [if_pos rfl]
    have h00 : ((0 : Int) != 0) = false := rfl
    (try simp only [fa_39_0, Nat.add_zero, o_neq, h00, condF])
    refine r_load one22 (hS.at m0 0 rfl) ?_
    refine (pnames Z p.kd hM (by simp [ho]) hS).mono fun r w3 ⟨hr, hw⟩ => ?_
    subst hr; subst hw
    rw [hkd]
    simp only [if_true]
    (try simp only [o_ext2_1, o_ext2_0])
    refine r_build (cells := #[.slice none 0 0]) (by kernel_rfl) ?_
    refine r_box _ _ hS fun gw w4 hS => ?_
    have hS := Wr.plain (g := gw) hS
    skip
    refine r_load one22 (hS.at m1 0 rfl) ?_
    refine (wInt8 Z p.kd (by simp) hS).mono fun r w5 hS => ?_
    rw [List.nil_append] at hS
    refine (fieldsC Z hS).mono fun r w6 hS => ?_
    obtain ⟨a, c, e⟩ := hS.own_form
    subst e
    (try simp only [ln_77_3])
    refine ⟨fun m y w' => ∃ i : Nat, y = .int .i64 i ∧ m + i = 12 ∧ St o w' (own 83 4 (.slice a 12 c) 12 flds.flatten :: blk g 39 p.cells :: Wr gw (fpre p.kd.toNat p i) :: R), ⟨12, 0, rfl, rfl, hS.put 1 |> fun h => by (refine Sh.St.sub ?_ (h); repeat (first | with_reducible exact sub_refl | with_reducible exact sub_nil | with_reducible refine sub_p0 ?_ | with_reducible refine sub_p1 ?_ | with_reducible refine sub_p2 ?_ | with_reducible refine sub_p3 ?_ | with_reducible refine sub_p4 ?_ | with_reducible refine sub_p5 ?_ | with_reducible refine sub_p6 ?_ | with_reducible refine sub_p7 ?_ | with_reducible refine sub_p8 ?_ | with_reducible refine sub_p9 ?_ | with_reducible refine sub_p10 ?_ | with_reducible refine sub_p11 ?_ | with_reducible refine sub_p12 ?_ | with_reducible refine sub_p13 ?_ | with_reducible refine sub_p14 ?_ | with_reducible refine sub_p15 ?_ | exact sub_refl | refine sub_p0 ?_ | refine sub_p1 ?_ | refine sub_p2 ?_ | refine sub_p3 ?_ | refine sub_p4 ?_ | refine sub_p5 ?_ | refine sub_p6 ?_ | refine sub_p7 ?_ | refine sub_p8 ?_ | refine sub_p9 ?_ | refine sub_p10 ?_ | refine sub_p11 ?_ | refine sub_p12 ?_ | refine sub_p13 ?_ | refine sub_p14 ?_ | refine sub_p15 ?_ | refine sub_drop ?_))⟩, ?_⟩
    clear hS
    rintro m _ w7 ⟨i, rfl, hi, hS⟩ _
    by_cases hlt : (i : Int) < ((12 : Nat) : Int)
    · have hil : i < 12 := by omega
      have hln := fpre_len hok hw i (by omega)
      (try simp only [o_add, o_lss, hlt, decide_true, condT])
      obtain ⟨b, q, hp, hc⟩ := (hS.own_rd m0).adr el77 .i64 i hil
      have hcc : ∀ j v, (fld i)[j]? = some v → w7.cell? ((⟨b, q, none⟩ : Addr).add j) = some v := fun j v hv => by
        rw [add_addr]
        exact hc w7 (hS.own_rd m0) j v (by rw [flds_cut hil]; exact hv)
      intro j9 hj9
      have HJ : ∀ w', St o w' (own 83 4 (.slice a 12 c) 12 flds.flatten :: blk g 39 p.cells :: Wr gw (fpre p.kd.toNat p (i + 1)) :: R) → j9 w' := fun w' hS => by
        refine hj9 w' fun _ => ?_
        rw [wr_i64 (x := (i : Int) + 1) (by omega) (by omega)]
        exact ⟨m - 1, by omega, i + 1, rfl, by omega, hS⟩
      clear hj9
      refine r1 (hp _) (r_loadN ag83 (xs := fld i) rfl hcc ?_)
      refine r_alloc hS ze83 fun gf w6 hS => ?_
      refine r_storeN hS ag83 (xs := fld i) rfl (show 0 + 4 ≤ 4 from Nat.le_refl _) (fld_ones hil) fun w7 hS => ?_
      rw [setL_all _ _ (by rfl)] at hS
      (try simp only [fa_83_1, Nat.zero_add, fa_83_0, Nat.add_zero])
      refine r_load one3 (hS.at m0 0 rfl) ?_
      obtain ⟨v, hv, _, hv1⟩ := andB p.kd.toNat i hK (by omega) ((2 ^ i : Nat) : Int) rfl
      refine r1 (hv _ _) ?_
      refine r1 (run_neq_int _ _ _ _ _ _ _ _) ?_
      rw [hv1]
      by_cases hh : hasF p.kd.toNat i = true
      · rw [hh]
        (try simp only [condT])
        refine r_load one79 (hS.at m0 1 rfl) ?_
        refine putAt Z (l := fpre p.kd.toNat p i) hil (hall i hil hh) hN (R := own 83 4 (.slice a 12 c) 12 flds.flatten :: blk gf 83 (fld i) :: R) (by simp [ho]) (fun w hw => hx w hw.drop.drop) (by omega) (by (refine Sh.St.sub ?_ (hS); repeat (first | with_reducible exact sub_refl | with_reducible exact sub_nil | with_reducible refine sub_p0 ?_ | with_reducible refine sub_p1 ?_ | with_reducible refine sub_p2 ?_ | with_reducible refine sub_p3 ?_ | with_reducible refine sub_p4 ?_ | with_reducible refine sub_p5 ?_ | with_reducible refine sub_p6 ?_ | with_reducible refine sub_p7 ?_ | with_reducible refine sub_p8 ?_ | with_reducible refine sub_p9 ?_ | with_reducible refine sub_p10 ?_ | with_reducible refine sub_p11 ?_ | with_reducible refine sub_p12 ?_ | with_reducible refine sub_p13 ?_ | with_reducible refine sub_p14 ?_ | with_reducible refine sub_p15 ?_ | exact sub_refl | refine sub_p0 ?_ | refine sub_p1 ?_ | refine sub_p2 ?_ | refine sub_p3 ?_ | refine sub_p4 ?_ | refine sub_p5 ?_ | refine sub_p6 ?_ | refine sub_p7 ?_ | refine sub_p8 ?_ | refine sub_p9 ?_ | refine sub_p10 ?_ | refine sub_p11 ?_ | refine sub_p12 ?_ | refine sub_p13 ?_ | refine sub_p14 ?_ | refine sub_p15 ?_ | refine sub_drop ?_))) fun _ w8 hS => ?_
        refine HJ _ ?_
        rw [fpre, hh]
        simp only [if_true]
        (refine Sh.St.sub ?_ (hS); repeat (first | with_reducible exact sub_refl | with_reducible exact sub_nil | with_reducible refine sub_p0 ?_ | with_reducible refine sub_p1 ?_ | with_reducible refine sub_p2 ?_ | with_reducible refine sub_p3 ?_ | with_reducible refine sub_p4 ?_ | with_reducible refine sub_p5 ?_ | with_reducible refine sub_p6 ?_ | with_reducible refine sub_p7 ?_ | with_reducible refine sub_p8 ?_ | with_reducible refine sub_p9 ?_ | with_reducible refine sub_p10 ?_ | with_reducible refine sub_p11 ?_ | with_reducible refine sub_p12 ?_ | with_reducible refine sub_p13 ?_ | with_reducible refine sub_p14 ?_ | with_reducible refine sub_p15 ?_ | exact sub_refl | refine sub_p0 ?_ | refine sub_p1 ?_ | refine sub_p2 ?_ | refine sub_p3 ?_ | refine sub_p4 ?_ | refine sub_p5 ?_ | refine sub_p6 ?_ | refine sub_p7 ?_ | refine sub_p8 ?_ | refine sub_p9 ?_ | refine sub_p10 ?_ | refine sub_p11 ?_ | refine sub_p12 ?_ | refine sub_p13 ?_ | refine sub_p14 ?_ | refine sub_p15 ?_ | refine sub_drop ?_))
      · have hh : hasF p.kd.toNat i = false := by simpa using hh
        rw [hh]
        (try simp only [condF])
        refine HJ _ ?_
        rw [fpre, hh]
        simp only [if_neg Bool.false_ne_true, List.append_nil]
        exact hS.drop
    · have hie : i = 12 := by omega
      subst hie
      have hln := fpre_len hok hw 12 (by omega)
      have had := adler_lt (body p)
      (try simp only [o_add, o_lss, hlt, decide_false, condF])
      have hS : St o w7 (Wr gw (body p) :: R) := by
        have hS' : St o w7 (own 83 4 (.slice a 12 c) 12 flds.flatten :: blk g 39 p.cells :: Wr gw (body p) :: R) := hS
        (refine Sh.St.sub ?_ (hS'); repeat (first | with_reducible exact sub_refl | with_reducible exact sub_nil | with_reducible refine sub_p0 ?_ | with_reducible refine sub_p1 ?_ | with_reducible refine sub_p2 ?_ | with_reducible refine sub_p3 ?_ | with_reducible refine sub_p4 ?_ | with_reducible refine sub_p5 ?_ | with_reducible refine sub_p6 ?_ | with_reducible refine sub_p7 ?_ | with_reducible refine sub_p8 ?_ | with_reducible refine sub_p9 ?_ | with_reducible refine sub_p10 ?_ | with_reducible refine sub_p11 ?_ | with_reducible refine sub_p12 ?_ | with_reducible refine sub_p13 ?_ | with_reducible refine sub_p14 ?_ | with_reducible refine sub_p15 ?_ | exact sub_refl | refine sub_p0 ?_ | refine sub_p1 ?_ | refine sub_p2 ?_ | refine sub_p3 ?_ | refine sub_p4 ?_ | refine sub_p5 ?_ | refine sub_p6 ?_ | refine sub_p7 ?_ | refine sub_p8 ?_ | refine sub_p9 ?_ | refine sub_p10 ?_ | refine sub_p11 ?_ | refine sub_p12 ?_ | refine sub_p13 ?_ | refine sub_p14 ?_ | refine sub_p15 ?_ | refine sub_drop ?_))
      have hbl : (body p).length ≤ 1 + 12 * 4200 := hln
      refine (wBytes Z (by omega) hS).mono fun b1 w8 hS => ?_
      refine r_build (cells := #[.slice none 0 0]) (by kernel_rfl) ?_
      refine r_box _ _ hS fun gv w9 hS => ?_
      have hS := Wr.plain (g := gv) hS
      refine (packSum Z (hS.own_rd (e := 5) m1)).mono fun r w10 ⟨hr, hw⟩ => ?_
      subst hr; subst hw
      refine (wUint32 Z (adler (body p)) (by simp) hS).mono fun r w11 hS => ?_
      rw [List.nil_append] at hS
      refine (wRaw Z (k := body p) (x := b1) (n := (body p).length) (Ent.own (e := 5) m0) (by rw [enc_length]; omega) hS).mono fun r w12 hS => ?_
      refine (wBytes Z (by rw [List.length_append, enc_length]; omega) hS).mono fun r w13 hS => ?_
      refine ⟨r, rfl, ?_⟩
      have hS : St o w13 (own 5 1 r (pkB p).length (cb (pkB p)) :: _) := hS
      (refine Sh.St.sub ?_ (hS); repeat (first | with_reducible exact sub_refl | with_reducible exact sub_nil | with_reducible refine sub_p0 ?_ | with_reducible refine sub_p1 ?_ | with_reducible refine sub_p2 ?_ | with_reducible refine sub_p3 ?_ | with_reducible refine sub_p4 ?_ | with_reducible refine sub_p5 ?_ | with_reducible refine sub_p6 ?_ | with_reducible refine sub_p7 ?_ | with_reducible refine sub_p8 ?_ | with_reducible refine sub_p9 ?_ | with_reducible refine sub_p10 ?_ | with_reducible refine sub_p11 ?_ | with_reducible refine sub_p12 ?_ | with_reducible refine sub_p13 ?_ | with_reducible refine sub_p14 ?_ | with_reducible refine sub_p15 ?_ | exact sub_refl | refine sub_p0 ?_ | refine sub_p1 ?_ | refine sub_p2 ?_ | refine sub_p3 ?_ | refine sub_p4 ?_ | refine sub_p5 ?_ | refine sub_p6 ?_ | refine sub_p7 ?_ | refine sub_p8 ?_ | refine sub_p9 ?_ | refine sub_p10 ?_ | refine sub_p11 ?_ | refine sub_p12 ?_ | refine sub_p13 ?_ | refine sub_p14 ?_ | refine sub_p15 ?_ | refine sub_drop ?_))
end
end Go.Proofs.YtfafkgbipjhcaaaGreatDoor

/- Packets with the same bytes are the same, but for addresses. Printed by wip/sh/mkG5.py. -/
set_option linter.unusedVariables false
set_option linter.unusedSimpArgs false
namespace Go.Proofs.YtfafkgbipjhcaaaGreatDoor
open Go.Sh
def sameF (y p : Pk) : Nat → Prop
  | 0 => y.cb = p.cb ∧ y.ct = p.ct
  | 1 => y.lb = p.lb ∧ y.lt = p.lt
  | 2 => y.pl = p.pl
  | 3 => y.ep = p.ep
  | 4 => y.cu = p.cu
  | 5 => y.ze = p.ze ∧ y.zn = p.zn
  | 6 => y.ve = p.ve ∧ y.vn = p.vn
  | 7 => y.co = p.co
  | 8 => y.fi = p.fi
  | 9 => y.t.hd = p.t.hd ∧ y.t.q.st = p.t.q.st
  | 10 => y.b = p.b
  | _ => y.se = p.se
def eqF (y p : Pk) : Nat → Prop
  | 0 => y.cb = p.cb ∧ y.ct = p.ct
  | 1 => y.lb = p.lb ∧ y.lt = p.lt
  | 2 => y.pl = p.pl
  | 3 => y.ep = p.ep
  | 4 => y.cu = p.cu
  | 5 => y.ze = p.ze ∧ y.zn = p.zn
  | 6 => y.ve = p.ve ∧ y.vn = p.vn
  | 7 => y.co = p.co
  | 8 => y.fi = p.fi
  | 9 => y.t = p.t
  | 10 => y.b = p.b ∧ y.bv = p.bv
  | _ => y.se = p.se
theorem sameF_of {y p : Pk} {i : Nat} (hi : i < 12) (h : eqF y p i) : sameF y p i := by
  obtain rfl | rfl | rfl | rfl | rfl | rfl | rfl | rfl | rfl | rfl | rfl | rfl := lt12 hi
  case inr.inr.inr.inr.inr.inr.inr.inr.inr.inl => exact ⟨by rw [show y.t = p.t from h], by rw [show y.t = p.t from h]⟩
  case inr.inr.inr.inr.inr.inr.inr.inr.inr.inr.inl => exact And.left h
  all_goals exact h
theorem sameF_fb {y p : Pk} {i : Nat} (hi : i < 12) (h : sameF y p i) : fb y i = fb p i := by
  obtain rfl | rfl | rfl | rfl | rfl | rfl | rfl | rfl | rfl | rfl | rfl | rfl := lt12 hi
  · obtain ⟨h1, h2⟩ := h; show _ ++ _ = _ ++ _; rw [h1, h2]
  · obtain ⟨h1, h2⟩ := h; show _ ++ _ = _ ++ _; rw [h1, h2]
  · have h : y.pl = p.pl := h; show enc _ y.pl = enc _ p.pl; rw [h]
  · have h : y.ep = p.ep := h; show enc _ y.ep = enc _ p.ep; rw [h]
  · have h : y.cu = p.cu := h; show enc _ y.cu = enc _ p.cu; rw [h]
  · obtain ⟨h1, h2⟩ := h; show _ ++ _ = _ ++ _; rw [h1, h2]
  · obtain ⟨h1, h2⟩ := h; show _ ++ _ = _ ++ _; rw [h1, h2]
  · have h : y.co = p.co := h; show encB y.co = encB p.co; rw [h]
  · have h : y.fi = p.fi := h; show encB y.fi = encB p.fi; rw [h]
  · obtain ⟨h1, h2⟩ := h; show encL _ = encL _; rw [txB_st h1 h2]
  · have h : y.b = p.b := h; show encL _ = encL _; rw [h]
  · have h : y.se = p.se := h; show enc _ y.se = enc _ p.se; rw [h]
theorem sameF_eq {y p p' : Pk} {i : Nat} (hi : i < 12) (h : eqF p' p i) (hs : sameF y p i) : sameF y p' i := by
  obtain rfl | rfl | rfl | rfl | rfl | rfl | rfl | rfl | rfl | rfl | rfl | rfl := lt12 hi
  · exact ⟨hs.1.trans h.1.symm, hs.2.trans h.2.symm⟩
  · exact ⟨hs.1.trans h.1.symm, hs.2.trans h.2.symm⟩
  · exact Eq.trans hs (Eq.symm h)
  · exact Eq.trans hs (Eq.symm h)
  · exact Eq.trans hs (Eq.symm h)
  · exact ⟨hs.1.trans h.1.symm, hs.2.trans h.2.symm⟩
  · exact ⟨hs.1.trans h.1.symm, hs.2.trans h.2.symm⟩
  · exact Eq.trans hs (Eq.symm h)
  · exact Eq.trans hs (Eq.symm h)
  · have h : p'.t = p.t := h; exact ⟨by rw [h]; exact hs.1, by rw [h]; exact hs.2⟩
  · exact Eq.trans hs h.1.symm
  · exact Eq.trans hs (Eq.symm h)
theorem zr_eq {p p' : Pk} {i : Nat} (hi : i < 12) (h : eqF p' p i) (hs : zr p i = true) : zr p' i = true := by
  obtain rfl | rfl | rfl | rfl | rfl | rfl | rfl | rfl | rfl | rfl | rfl | rfl := lt12 hi
  · have h1 := h.1; have h2 := h.2; have hs : ((p.cb == 0) && (p.ct == 0)) = true := hs; show ((p'.cb == 0) && (p'.ct == 0)) = true; rw [h1, h2]; exact hs
  · have h1 := h.1; have h2 := h.2; have hs : ((p.lb == 0) && (p.lt == 0)) = true := hs; show ((p'.lb == 0) && (p'.lt == 0)) = true; rw [h1, h2]; exact hs
  · have h : p'.pl = p.pl := h; have hs : (p.pl == 0) = true := hs; show (p'.pl == 0) = true; rw [h]; exact hs
  · have h : p'.ep = p.ep := h; have hs : (p.ep == 0) = true := hs; show (p'.ep == 0) = true; rw [h]; exact hs
  · have h : p'.cu = p.cu := h; have hs : (p.cu == 0) = true := hs; show (p'.cu == 0) = true; rw [h]; exact hs
  · have h1 := h.1; have h2 := h.2; have hs : ((p.ze == 0) && (p.zn == 0)) = true := hs; show ((p'.ze == 0) && (p'.zn == 0)) = true; rw [h1, h2]; exact hs
  · have h1 := h.1; have h2 := h.2; have hs : ((p.ve == 0) && (p.vn == 0)) = true := hs; show ((p'.ve == 0) && (p'.vn == 0)) = true; rw [h1, h2]; exact hs
  · have h : p'.co = p.co := h; have hs : (!p.co) = true := hs; show (!p'.co) = true; rw [h]; exact hs
  · have h : p'.fi = p.fi := h; have hs : (!p.fi) = true := hs; show (!p'.fi) = true; rw [h]; exact hs
  · have h : p'.t = p.t := h; unfold zr at hs ⊢; rw [h]; exact hs
  · have h1 : p'.b = p.b := h.1; unfold zr at hs ⊢; rw [h1]; exact hs
  · have h : p'.se = p.se := h; have hs : (p.se == 0) = true := hs; show (p'.se == 0) = true; rw [h]; exact hs
theorem has6 : ∀ K : Fin 15, hasF K.1 9 = true → K.1 ≠ 13 → hasF K.1 6 = true := by decide +kernel
theorem okP_same {y p : Pk} (hy : okP y = true) (hk : y.kd = p.kd) (hz : ∀ i, i < 12 → hasF p.kd.toNat i = false → zr p i = true) (hs : ∀ i, i < 12 → hasF p.kd.toNat i = true → sameF y p i) : okP p = true := by
  obtain ⟨h1, h2, h3⟩ := okP_iff.1 hy
  rw [hk] at h1 h3
  refine okP_iff.2 ⟨h1, (bareB_iff _ _).2 fun i hi => ?_, fun i hi hh => ?_⟩
  · cases hh : hasF p.kd.toNat i with
    | true => rfl
    | false => rw [hz i hi hh]; rfl
  · have hr := h3 i hi hh
    have h := hs i hi hh
    have hK := isKd_le h1
    obtain rfl | rfl | rfl | rfl | rfl | rfl | rfl | rfl | rfl | rfl | rfl | rfl := lt12 hi
    · have h1 := h.1; have h2 := h.2; have hr : cnOk y.cb y.ct = true := hr; show cnOk p.cb p.ct = true; rw [← h1, ← h2]; exact hr
    · have h1 := h.1; have h2 := h.2; have hr : cnOk y.lb y.lt = true := hr; show cnOk p.lb p.lt = true; rw [← h1, ← h2]; exact hr
    · have h : y.pl = p.pl := h; have hr : decide (0 ≤ y.pl) = true := hr; show decide (0 ≤ p.pl) = true; rw [← h]; exact hr
    · have h : y.ep = p.ep := h; unfold rt at hr ⊢; rw [← h, ← hk]; exact hr
    · have h : y.cu = p.cu := h; unfold rt at hr ⊢; rw [← h]; exact hr
    · have h1 : y.ze = p.ze := h.1; have h2 : y.zn = p.zn := h.2; unfold rt at hr ⊢; rw [← h1, ← h2, ← hk]; exact hr
    · have h1 : y.ve = p.ve := h.1; have h2 : y.vn = p.vn := h.2; unfold rt at hr ⊢; rw [← h1, ← h2]; exact hr
    · rfl
    · rfl
    · have h1 : y.t.hd = p.t.hd := h.1
      have h2 : y.t.q.st = p.t.q.st := h.2
      have e1 : y.t.e = p.t.e := congrArg Hd.e h1
      have e2 : y.t.n = p.t.n := congrArg Hd.n h1
      have e3 : y.t.nu = p.t.nu := congrArg Hd.nu h1
      have hc := chkT_st h1 h2
      unfold rt at hr ⊢
      by_cases h13 : p.kd = 13
      · rw [if_pos (hk.trans h13), hc, e1, e2, e3] at hr
        rw [if_pos h13]
        exact hr
      · have h6 := has6 ⟨p.kd.toNat, by omega⟩ hh (fun e => h13 (by have e : p.kd.toNat = 13 := e; omega))
        have hv := hs 6 (by omega) h6
        have v1 : y.ve = p.ve := hv.1
        have v2 : y.vn = p.vn := hv.2
        rw [if_neg (fun e => h13 (hk.symm.trans e)), hc, e1, e2, v1, v2] at hr
        rw [if_neg h13]
        exact hr
    · have h : y.b = p.b := h; unfold rt at hr ⊢; rw [← h]; exact hr
    · have h : y.se = p.se := h; unfold rt at hr ⊢; rw [← h]; exact hr
theorem fpre_same {y p : Pk} (hk : y.kd = p.kd) : ∀ i, i ≤ 12 → (∀ j, j < i → hasF p.kd.toNat j = true → sameF y p j) → fpre y.kd.toNat y i = fpre p.kd.toNat p i
  | 0, _, _ => by rw [fpre, fpre, hk]
  | i + 1, hi, hs => by
    rw [fpre, fpre, fpre_same hk i (by omega) fun j hj => hs j (by omega), hk]
    cases hh : hasF p.kd.toNat i with
    | true => rw [if_pos rfl, if_pos rfl, sameF_fb (by omega) (hs i (by omega) hh)]
    | false => rfl
theorem fpre_eq {K : Nat} {p p' : Pk} {i : Nat} (hk : p'.kd = p.kd) : ∀ n, n ≤ i → i ≤ 12 → (∀ j, j < i → eqF p' p j) → fpre K p' n = fpre K p n
  | 0, _, _, _ => by rw [fpre, fpre, hk]
  | n + 1, hn, hi, hs => by
    rw [fpre, fpre, fpre_eq hk n (by omega) hi hs, sameF_fb (by omega) (sameF_of (by omega) (hs n (by omega)))]
theorem fpre_add (K : Nat) (p : Pk) (j : Nat) : ∀ k, ∃ rest, fpre K p (j + k) = fpre K p j ++ rest
  | 0 => ⟨[], by rw [List.append_nil]; rfl⟩
  | k + 1 => by
    obtain ⟨rest, e⟩ := fpre_add K p j k
    exact ⟨rest ++ _, by rw [← Nat.add_assoc, fpre, e, List.append_assoc]⟩
theorem body_has {all : List UInt8} {y p : Pk} {i : Nat} (hi : i < 12) (hk : y.kd = p.kd) (hs : ∀ j, j < i → hasF p.kd.toNat j = true → sameF y p j) (hh : hasF p.kd.toNat i = true) (h : Has all 4 (body y)) : Has all (4 + (fpre p.kd.toNat p i).length) (fb y i) := by
  obtain ⟨rest, e⟩ := fpre_add y.kd.toNat y (i + 1) (11 - i)
  have e2 : fpre y.kd.toNat y (i + 1) = fpre p.kd.toNat p i ++ fb y i := by rw [fpre, fpre_same hk i (by omega) hs, hk, if_pos hh]
  rw [show i + 1 + (11 - i) = 12 by omega, e2, List.append_assoc] at e
  have h : Has all 4 (fpre y.kd.toNat y 12) := h
  rw [e] at h
  exact (Has.split.1 (Has.split.1 h).2).1
theorem summed_drop (l : List UInt8) : (summed l).drop 4 = l := by unfold summed; rw [List.drop_left' (enc_length _ _)]
theorem pk_has {l : List UInt8} {y : Pk} (h : l = pkB y) : Has l 4 (body y) := ⟨[], by rw [h, pkB, summed_drop, List.append_nil]⟩
end Go.Proofs.YtfafkgbipjhcaaaGreatDoor
