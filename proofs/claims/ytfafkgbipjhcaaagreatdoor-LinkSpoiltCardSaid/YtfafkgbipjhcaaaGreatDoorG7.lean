/- Read: a packet out of its bytes. -/
import Derived.Test.YtfafkgbipjhcaaaGreatDoorG6
import Derived.Test.YtfafkgbipjhcaaaGreatDoorS0d
set_option linter.unusedVariables false
set_option linter.unusedSimpArgs false
namespace Go.Proofs.YtfafkgbipjhcaaaGreatDoor
open Go.Sh
def pz : Pk := ⟨0, 0, 0, 0, 0, 0, 0, 0, 0, 0, 0, 0, false, false, tz, .slice none 0 0, [], 0⟩
def pk0 (kd : Int) : Pk := { pz with kd := kd }
theorem u32r0 : u32r 0 := by unfold u32r; omega
theorem pz_h : wfH tz.hd := ⟨⟨⟨⟨⟨trivial, u32r0⟩, u32r0⟩, (by omega : -128 ≤ (0 : Int) ∧ (0 : Int) ≤ 127)⟩, u32r0⟩, (by omega : -9223372036854775808 ≤ (0 : Int) ∧ (0 : Int) ≤ 9223372036854775807)⟩
theorem pk0_wf {kd : Int} (h : -128 ≤ kd ∧ kd ≤ 127) : WfP (pk0 kd) := { kd := h, cb := u32r0, ct := u32r0, lb := u32r0, lt := u32r0, pl := (by omega : -9223372036854775808 ≤ (0 : Int) ∧ (0 : Int) ≤ 9223372036854775807), ep := u32r0, cu := u32r0, ze := u32r0, zn := u32r0, ve := u32r0, vn := u32r0, h := pz_h, q := qz_wf, b := Nat.zero_le _, se := (by omega : -9223372036854775808 ≤ (0 : Int) ∧ (0 : Int) ≤ 9223372036854775807) }
theorem pk0_zr (kd : Int) {i : Nat} (hi : i < 12) : zr (pk0 kd) i = true := by
  obtain rfl | rfl | rfl | rfl | rfl | rfl | rfl | rfl | rfl | rfl | rfl | rfl := lt12 hi
  case inr.inr.inr.inr.inr.inr.inr.inr.inr.inl => exact zr_txn (by simp [pk0, pz])
  all_goals first | rfl | (unfold zr; simp [pk0, pz])
def sameP (a c : Pk) : Prop := a.kd = c.kd ∧ ∀ i, i < 12 → sameF a c i
def ReadP (l : List UInt8) (o : World) (R : List HProp) (r : Value) (w' : World) : Prop :=
  (∃ p : Pk, okP p = true ∧ WfP p ∧ l = pkB p ∧ (∀ y, WfP y → okP y = true → Has l 4 (body y) → sameP y p) ∧ r = .tuple #[.agg p.cells.toArray, .int .i64 0] ∧ St o w' (OwQ p.t.q :: own 5 1 p.bv p.b.length (cb p.b) :: R)) ∨
  ((∀ y, WfP y → okP y = true → l ≠ pkB y) ∧ r = .tuple #[.agg pz.cells.toArray, .int .i64 150] ∧ St o w' R)
theorem run_neq_any {P : Program} {t : TypeId} (h : P.underlying t = some (.interface (P.methodsAt t))) (cx cy : Bool) (u : TypeId) (x : Value) (w : World) : (eqOp .neq t cx cy (.iface u x) .nilIface).run P w = .ok (.bool true) w := by
  simp only [eqOp, eqGuard]
  simp [run_neq_held_nil w t u x h]
theorem run_neq_any0 {P : Program} {t : TypeId} (h : P.underlying t = some (.interface (P.methodsAt t))) (cx : Bool) (w : World) : (eqOp .neq t cx true .nilIface .nilIface).run P w = .ok (.bool false) w := by
  simp only [eqOp, eqGuard]
  simp [run_neq_nil_nil w t h, cst]
theorem run_ta_struct {P : Program} {a : TypeId} (h : aggT P a 0 = true) (v : Value) (x : TypeId) (w : World) : (Instr.typeAssert (.iface a v) x a true).run P w = .ok (.tuple #[v, .bool true]) w := by
  obtain ⟨⟨d, hd, hk⟩, _⟩ := aggT_spec h
  rcases hk with ⟨f, rfl⟩ | ⟨b, c, rfl⟩ <;> simp [Instr.typeAssert, run_underlying hd]
def CapOk (x : Value) : Prop := ∀ a n c, x = .slice a n c → n ≤ c
theorem Rd.tail {w : World} {a : Option Addr} {n c : Nat} {l : List UInt8} (h : Rd w 1 (.slice a n c) n (cb l)) (hcap : n ≤ c) (k : Nat) (hk : k ≤ n) : Rd w 1 (.slice (if c = k then a else a.map (·.add (k * 1))) (n - k) (c - k)) (n - k) (cb (l.drop k)) := by
  have hn := rd_len h
  obtain ⟨h1, h2, h3⟩ := h
  refine ⟨by rw [cb_length, List.length_drop]; omega, by omega, ?_⟩
  have hcb : cb (l.drop k) = (cb l).drop k := by simp [cb]
  rw [hcb]
  rcases h3 with ⟨c', e, hz⟩ | ⟨b, c', e, hc⟩
  · obtain ⟨rfl, _, _⟩ := Value.slice.inj e
    exact .inl ⟨c - k, by split <;> simp [hz], by omega⟩
  · obtain ⟨rfl, _, rfl⟩ := Value.slice.inj e
    have hd : ∀ (a' : Addr), (∀ j u, ((cb l).drop k)[j]? = some u → w.cell? (a'.add j) = some u) → (∃ c', (Value.slice (some a') (n - k) (c - k)) = .slice none 0 c' ∧ n - k = 0) ∨ ∃ a c', (Value.slice (some a') (n - k) (c - k)) = .slice (some a) (n - k) c' ∧ ∀ (j : Nat) (u : Value), ((cb l).drop k)[j]? = some u → w.cell? (a.add j) = some u := fun a' h => .inr ⟨a', _, rfl, h⟩
    split
    · refine hd b fun j u hj => ?_
      rename_i hck
      rw [List.drop_eq_nil_of_le (by omega)] at hj
      simp at hj
    · exact hd (b.add (k * 1)) fun j u hj => by
        rw [addr_add2, Nat.mul_one]
        rw [List.getElem?_drop] at hj
        exact hc _ _ hj
section
variable (Z : List PanicEntry → World → Prop) {o w : World} {R As : List HProp} {g gp : Nat} {p : Pk} {B : Option Nat} {all : List UInt8} {off : Nat} {err : Int}
theorem getAt {kk : Value → World → Prop} {i : Nat} (hi : i < 12) (hN : Names o) (ho : old o ∈ R) (hall : all.length ≤ 140737488355328) (hz : ∀ w' p', (∀ y, WfP y → rt y i = true → ¬ (err = 0 ∧ Has all off (fb y i))) → St o w' (PSt gp p' R) → Z [{ v := spoiltV, recovered := false }] w')
    (hw : err = 0 → WfP p) (h : St o w (RdrAt g B all off err :: PSt gp p R)) (hk : ∀ r w', Got i p g gp B all off err o R w' → kk r w') : runX Tryz.prog Z (callVal (getV i) #[.pointer (some ⟨g, 0, none⟩), .pointer (some ⟨gp, 0, none⟩)]) w kk := by
  obtain rfl | rfl | rfl | rfl | rfl | rfl | rfl | rfl | rfl | rfl | rfl | rfl := lt12 hi
  · exact r_callVal en111 (l1 := []) (l2 := [_, _]) (l3 := []) rfl rfl rfl ((get0 Z hw h).mono hk)
  · exact r_callVal en116 (l1 := []) (l2 := [_, _]) (l3 := []) rfl rfl rfl ((get1 Z hw h).mono hk)
  · exact r_callVal en119 (l1 := []) (l2 := [_, _]) (l3 := []) rfl rfl rfl ((get2 Z hw h).mono hk)
  · exact r_callVal en57 (l1 := []) (l2 := [_, _]) (l3 := []) rfl rfl rfl ((get3 Z hw h).mono hk)
  · exact r_callVal en60 (l1 := []) (l2 := [_, _]) (l3 := []) rfl rfl rfl ((get4 Z hw h).mono hk)
  · exact r_callVal en64 (l1 := []) (l2 := [_, _]) (l3 := []) rfl rfl rfl ((get5 Z hw h).mono hk)
  · exact r_callVal en68 (l1 := []) (l2 := [_, _]) (l3 := []) rfl rfl rfl ((get6 Z hw h).mono hk)
  · exact r_callVal en73 (l1 := []) (l2 := [_, _]) (l3 := []) rfl rfl rfl ((get7 Z hw h).mono hk)
  · exact r_callVal en76 (l1 := []) (l2 := [_, _]) (l3 := []) rfl rfl rfl ((get8 Z hw h).mono hk)
  · exact r_callVal en78 (l1 := []) (l2 := [_, _]) (l3 := []) rfl rfl rfl ((get9 Z hN ho hall hz hw h).mono hk)
  · exact r_callVal en82 (l1 := []) (l2 := [_, _]) (l3 := []) rfl rfl rfl ((get10 Z hall hw h).mono hk)
  · exact r_callVal en87 (l1 := []) (l2 := [_, _]) (l3 := []) rfl rfl rfl ((get11 Z hw h).mono hk)
theorem readStop {l : List UInt8} {g1 g2 : Nat} {e : Int} (hno : ∀ y, WfP y → okP y = true → l ≠ pkB y) (h : St o w (blk g1 39 p.cells :: blk g2 42 [.int .i64 e] :: R)) :
    leaveV Tryz.prog ⟨.fn (.func 43) #[.pointer (some ⟨g1, 0, none⟩), .pointer (some ⟨g2, 0, none⟩)], #[]⟩ (.panicking [{ v := spoiltV, recovered := false }]) w fun w =>
      ∃ r_5, (do loadVar 39 (← asAddr (.pointer (some ⟨g1, 0, none⟩))) : Sem Value).run Tryz.prog w = .ok r_5 w ∧
      ∃ r_6, (do loadVar 42 (← asAddr (.pointer (some ⟨g2, 0, none⟩))) : Sem Value).run Tryz.prog w = .ok r_6 w ∧ ReadP l o R (.tuple #[r_5, r_6]) w := by
  refine r_leave en43 (l := [.pointer (some ⟨g1, 0, none⟩), .pointer (some ⟨g2, 0, none⟩)]) rfl (f43.callD ?_)
  unfold f43.rec
  have hag : aggT Tryz.prog 100 0 = true := by kernel_rfl
  refine recV_yes ?_
  refine r1 (run_neq_any (by kernel_rfl) _ _ _ _ _) ?_
  (try simp only [condT])
  intro j hj
  refine r1 (run_ta_struct hag _ _ _) ?_
  (try simp only [o_ext2_1, o_not, Bool.not_true, condF, o_ext2_0])
  refine r_alloc h (z := .agg #[]) (by kernel_rfl) fun g3 w1 hS => ?_
  refine r_storeN hS hag (xs := []) rfl (show 0 + 0 ≤ _ from Nat.zero_le _) (fun u hu => by cases hu) fun w2 hS => ?_
  skip
  refine hj _ fun _ => ?_
  refine r_build (cells := pz.cells.toArray) (by kernel_rfl) ?_
  refine r_storeN (hS.pick 1) ag39 (xs := pz.cells) rfl (show 0 + 32 ≤ 32 from Nat.le_refl _) (RdP.ones (w := w2) ⟨qz_rd w2, rd0 w2 1⟩) fun w3 hS => ?_
  rw [setL_all _ _ (by rfl)] at hS
  refine r_store (hS.pick 2) one42 (show 0 < 1 by omega) rfl fun w4 hS => ?_
  refine ⟨rfl, r_resN ag39 (xs := pz.cells) rfl (hS.cells_at m1 0 (whole_at _)) (r_res one42 (hS.at m0 0 rfl) (.inr ⟨hno, rfl, ?_⟩))⟩
  have hS : St o w4 (blk g2 42 [.int .i64 150] :: blk g1 39 pz.cells :: blk g3 100 [] :: R) := hS
  (refine Sh.St.sub ?_ (hS); repeat (first | with_reducible exact sub_refl | with_reducible exact sub_nil | with_reducible refine sub_p0 ?_ | with_reducible refine sub_p1 ?_ | with_reducible refine sub_p2 ?_ | with_reducible refine sub_p3 ?_ | with_reducible refine sub_p4 ?_ | with_reducible refine sub_p5 ?_ | with_reducible refine sub_p6 ?_ | with_reducible refine sub_p7 ?_ | with_reducible refine sub_p8 ?_ | with_reducible refine sub_p9 ?_ | with_reducible refine sub_p10 ?_ | with_reducible refine sub_p11 ?_ | with_reducible refine sub_p12 ?_ | with_reducible refine sub_p13 ?_ | with_reducible refine sub_p14 ?_ | with_reducible refine sub_p15 ?_ | exact sub_refl | refine sub_p0 ?_ | refine sub_p1 ?_ | refine sub_p2 ?_ | refine sub_p3 ?_ | refine sub_p4 ?_ | refine sub_p5 ?_ | refine sub_p6 ?_ | refine sub_p7 ?_ | refine sub_p8 ?_ | refine sub_p9 ?_ | refine sub_p10 ?_ | refine sub_p11 ?_ | refine sub_p12 ?_ | refine sub_p13 ?_ | refine sub_p14 ?_ | refine sub_p15 ?_ | refine sub_drop ?_))
def RdC (l : List UInt8) (kd : Int) (i : Nat) (p : Pk) (off : Nat) (err : Int) : Prop :=
  (err = 0 ∧ p.kd = kd ∧ off = 4 + (fpre kd.toNat p i).length ∧ Has l 4 (fpre kd.toNat p i) ∧ (∀ j, j < 12 → hasF kd.toNat j = false ∨ i ≤ j → zr p j = true) ∧ ∀ y, WfP y → okP y = true → Has l 4 (body y) → y.kd = kd ∧ ∀ j, j < i → hasF kd.toNat j = true → sameF y p j) ∨
  (err ≠ 0 ∧ ∀ y, WfP y → okP y = true → l ≠ pkB y)
theorem ok_rt {y : Pk} (hy : okP y = true) {kd : Int} (hk : y.kd = kd) {i : Nat} (hi : i < 12) (hh : hasF kd.toNat i = true) : rt y i = true := (okP_iff.1 hy).2.2 i hi (by rw [hk]; exact hh)
theorem rdC_bad {l : List UInt8} {kd : Int} {i : Nat} (hc : RdC l kd i p off err) (hi : i < 12) (hh : hasF kd.toNat i = true) (hno : ∀ y, WfP y → rt y i = true → ¬ (err = 0 ∧ Has l off (fb y i))) : ∀ y, WfP y → okP y = true → l ≠ pkB y := by
  rcases hc with ⟨h0, hk, ho, _, _, hu⟩ | ⟨_, hn⟩
  · intro y hy hok e
    obtain ⟨h1, h2⟩ := hu y hy hok (pk_has e)
    subst hk
    refine hno y hy (ok_rt hok h1 hi hh) ⟨h0, ?_⟩
    rw [ho]
    exact body_has hi h1 h2 hh (pk_has e)
  · exact hn
theorem rdC_good {l : List UInt8} {kd : Int} {i : Nat} {p' : Pk} (hc : RdC l kd i p off err) (h0 : err = 0) (hi : i < 12) (hh : hasF kd.toNat i = true) (hk : p'.kd = p.kd) (heq : ∀ j, j < 12 → j ≠ i → eqF p' p j) (hhas : Has l off (fb p' i)) (hu : ∀ y, WfP y → rt y i = true → Has l off (fb y i) → sameF y p' i) :
    RdC l kd (i + 1) p' (off + (fb p' i).length) 0 := by
  rcases hc with ⟨_, hkd, ho, hH, hz, hu2⟩ | ⟨hn, _⟩
  · have e : fpre kd.toNat p' (i + 1) = fpre kd.toNat p i ++ fb p' i := by
      rw [fpre, if_pos hh, fpre_eq hk i (Nat.le_refl _) (by omega) fun j hj => heq j (by omega) (by omega)]
    refine .inl ⟨rfl, hk.trans hkd, by rw [e, List.length_append]; omega, by rw [e]; exact Has.split.2 ⟨hH, by rw [← ho]; exact hhas⟩, fun j hj hc => ?_, fun y hy hok ey => ?_⟩
    · have hne : j ≠ i := by
        rintro rfl
        rcases hc with hc | hc
        · rw [hh] at hc; cases hc
        · omega
      exact zr_eq hj (heq j hj hne) (hz j hj (hc.imp_right fun h => by omega))
    · obtain ⟨h1, h2⟩ := hu2 y hy hok ey
      refine ⟨h1, fun j hj hj2 => ?_⟩
      by_cases hji : j = i
      · subst hji
        subst hkd
        refine hu y hy (ok_rt hok h1 hi hh) ?_
        rw [ho]
        exact body_has hi h1 h2 hh ey
      · exact sameF_eq (by omega) (heq j (by omega) hji) (h2 j (by omega) hj2)
  · exact absurd h0 hn
theorem rdC_skip {l : List UInt8} {kd : Int} {i : Nat} (hc : RdC l kd i p off err) (hh : hasF kd.toNat i = false) : RdC l kd (i + 1) p off err := by
  have e : fpre kd.toNat p (i + 1) = fpre kd.toNat p i := by rw [fpre, hh, if_neg Bool.false_ne_true, List.append_nil]
  rcases hc with ⟨h0, hkd, ho, hH, hz, hu2⟩ | hn
  · refine .inl ⟨h0, hkd, by rw [e]; exact ho, by rw [e]; exact hH, fun j hj hc => hz j hj (hc.imp_right fun h => by omega), fun y hy hok ey => ?_⟩
    obtain ⟨h1, h2⟩ := hu2 y hy hok ey
    refine ⟨h1, fun j hj hj2 => ?_⟩
    by_cases hji : j = i
    · subst hji; rw [hh] at hj2; cases hj2
    · exact h2 j (by omega) hj2
  · exact .inr hn
theorem rdC_end {l : List UInt8} {kd : Int} (hc : RdC l kd 12 p off err) (h0 : err = 0) (hle : ¬ off < l.length) (h4 : 4 ≤ l.length) (hs : enc 4 (adler (l.drop 4)) ++ l.drop 4 = l) : l = pkB p := by
  rcases hc with ⟨_, hkd, ho, hH, _, _⟩ | ⟨hn, _⟩
  · subst hkd
    have hH : Has l 4 (body p) := hH
    have ho : off = 4 + (body p).length := ho
    obtain ⟨rest, hr⟩ := hH
    have hl := congrArg List.length hr
    rw [List.length_append, List.length_drop] at hl
    have : rest = [] := List.eq_nil_of_length_eq_zero (by omega)
    rw [this, List.append_nil] at hr
    rw [hr] at hs
    exact hs.symm
  · exact absurd h0 hn
theorem zr9 {p : Pk} (h : zr p 9 = true) : p.t.hd = tz.hd ∧ p.t.q.st = tz.q.st := Classical.byContradiction fun hn => by
  rw [zr_txn (b := false) ⟨fun h => Bool.noConfusion h, fun h => absurd h hn⟩] at h
  cases h
theorem zr_same {y p : Pk} {i : Nat} (hi : i < 12) (h1 : zr y i = true) (h2 : zr p i = true) : sameF y p i := by
  obtain rfl | rfl | rfl | rfl | rfl | rfl | rfl | rfl | rfl | rfl | rfl | rfl := lt12 hi
  · simp [zr] at h1 h2; exact ⟨by omega, by omega⟩
  · simp [zr] at h1 h2; exact ⟨by omega, by omega⟩
  · simp [zr] at h1 h2; show y.pl = p.pl; omega
  · simp [zr] at h1 h2; show y.ep = p.ep; omega
  · simp [zr] at h1 h2; show y.cu = p.cu; omega
  · simp [zr] at h1 h2; exact ⟨by omega, by omega⟩
  · simp [zr] at h1 h2; exact ⟨by omega, by omega⟩
  · simp [zr] at h1 h2; show y.co = p.co; rw [h1, h2]
  · simp [zr] at h1 h2; show y.fi = p.fi; rw [h1, h2]
  · have a := zr9 h1
    have b := zr9 h2
    exact ⟨a.1.trans b.1.symm, a.2.trans b.2.symm⟩
  · simp [zr] at h1 h2; show y.b = p.b; rw [h1, h2]
  · simp [zr] at h1 h2; show y.se = p.se; omega
theorem rdC_same {l : List UInt8} {kd : Int} (hc : RdC l kd 12 p off err) (h0 : err = 0) : ∀ y, WfP y → okP y = true → Has l 4 (body y) → sameP y p := by
  rcases hc with ⟨_, hkd, ho, hH, hz, hu⟩ | ⟨hn, _⟩
  · intro y hy hok e
    obtain ⟨h1, h2⟩ := hu y hy hok e
    subst hkd
    refine ⟨h1, fun i hi => ?_⟩
    cases hh : hasF p.kd.toNat i with
    | true => exact h2 i hi hh
    | false =>
      refine zr_same hi ?_ (hz i hi (.inl hh))
      have := (bareB_iff _ _).1 (okP_iff.1 hok).2.1 i hi
      rw [h1, hh] at this
      exact this
  · exact absurd h0 hn
theorem rdC_more {l : List UInt8} {kd : Int} (hc : RdC l kd 12 p off err) (hm : err ≠ 0 ∨ off < l.length) : ∀ y, WfP y → okP y = true → l ≠ pkB y := by
  rcases hc with ⟨h0, hkd, ho, hH, _, hu⟩ | ⟨_, hn⟩
  · intro y hy hok e
    obtain ⟨h1, h2⟩ := hu y hy hok (pk_has e)
    subst hkd
    have hb : body y = body p := fpre_same h1 12 (Nat.le_refl _) h2
    have ho : off = 4 + (body p).length := ho
    have hl := congrArg List.length e
    rw [pkB, summed, List.length_append, enc_length, hb] at hl
    rcases hm with hm | hm
    · exact hm h0
    · omega
  · exact hn
theorem rdC_not {l : List UInt8} {kd : Int} (hc : RdC l kd 12 p off err) (hp : okP p = false) : ∀ y, WfP y → okP y = true → l ≠ pkB y := by
  rcases hc with ⟨h0, hkd, ho, hH, hz, hu⟩ | ⟨_, hn⟩
  · intro y hy hok e
    obtain ⟨h1, h2⟩ := hu y hy hok (pk_has e)
    subst hkd
    rw [okP_same hok h1 (fun i hi hh => hz i hi (.inl hh)) h2] at hp
    cases hp
  · exact hn
set_option maxRecDepth 100000 in
theorem readP {x : Value} {n : Nat} {l : List UInt8} (hN : Names o) (hM : Named o) (ho : old o ∈ R) (hx : Ent o R fun w => Rd w 1 x n (cb l)) (hxc : CapOk x) (hl : l.length ≤ 140737488355328) (h : St o w R) : CallV Tryz.prog Z 14 #[x] w (ReadP l o R) := by
  have h0 := hx w h
  have hn := rd_len h0
  subst hn
  obtain ⟨xa, c, rfl⟩ := h0.form
  have hcap := hxc xa l.length c rfl
  refine f14.calls ?_
  unfold f14.sh
  refine r_alloc h ze39 fun g1 w1 hS => ?_
  have hS : St o w1 (blk g1 39 pz.cells :: R) := hS
  refine r_alloc hS ze42 fun g2 w2 hS => ?_
  have hS : St o w2 (blk g2 42 [.int .i64 0] :: blk g1 39 pz.cells :: R) := hS
  refine r1 (run_makeFunc _ _ _ _ _) ?_
  refine deferV_mk ?_
  intro Z hZ
  have stop : ∀ (w : World) (p : Pk) (k : Value → World → Prop), (∀ y, WfP y → okP y = true → l ≠ pkB y) → St o w (blk g1 39 p.cells :: blk g2 42 [.int .i64 0] :: R) →
      run1 Tryz.prog Z (Instr.build 100 #[]) w fun t11 w => run1 Tryz.prog Z (Instr.makeInterface 100 t11) w fun t12 w => run1 Tryz.prog Z (Instr.panic t12) w k := fun w p k hno hS => by
    refine r_build (cells := #[]) (by kernel_rfl) ?_
    refine r1 (run_makeInterface _ _ _ (by kernel_rfl)) ?_
    exact r_panic (run_panic_iface _ _ _) (hZ _ _ (readStop hno hS))
  have nz : ∀ {e : Int}, e ≠ 0 → (e != 0) = true := fun h => by simpa using h
  have h00 : ((0 : Int) != 0) = false := rfl
  have adl : ∀ y : Pk, (0 : Int) ≤ (adler (body y) : Int) ∧ (adler (body y) : Int) ≤ 4294967295 := fun y => by have := adler_lt (body y); omega
  refine (rNew Z hS (fun w hw => hx w hw.drop.drop) hl).mono fun r w3 ⟨g, B, hr, hS⟩ => ?_
  subst hr
  refine (gUint32 Z hS).mono fun r w4 hq => ?_
  intro j9 hj9
  rcases hq with ⟨a, ha, _, hh, hu, rfl, hS⟩ | ⟨rfl, hno, off', e', ⟨he', _⟩, hS⟩
  rotate_left
  · refine (rErr Z hS).mono fun r w5 ⟨hr, hw⟩ => ?_
    subst hr; subst hw
    refine r1 (run_neq_int _ _ _ _ _ _ _ _) ?_
    rw [nz he']
    (try simp only [o_pickT, condT, guardW_tf])
    refine stop _ pz _ (fun y hy hk e => ?_) (by (refine Sh.St.sub ?_ (hS); repeat (first | with_reducible exact sub_refl | with_reducible exact sub_nil | with_reducible refine sub_p0 ?_ | with_reducible refine sub_p1 ?_ | with_reducible refine sub_p2 ?_ | with_reducible refine sub_p3 ?_ | with_reducible refine sub_p4 ?_ | with_reducible refine sub_p5 ?_ | with_reducible refine sub_p6 ?_ | with_reducible refine sub_p7 ?_ | with_reducible refine sub_p8 ?_ | with_reducible refine sub_p9 ?_ | with_reducible refine sub_p10 ?_ | with_reducible refine sub_p11 ?_ | with_reducible refine sub_p12 ?_ | with_reducible refine sub_p13 ?_ | with_reducible refine sub_p14 ?_ | with_reducible refine sub_p15 ?_ | exact sub_refl | refine sub_p0 ?_ | refine sub_p1 ?_ | refine sub_p2 ?_ | refine sub_p3 ?_ | refine sub_p4 ?_ | refine sub_p5 ?_ | refine sub_p6 ?_ | refine sub_p7 ?_ | refine sub_p8 ?_ | refine sub_p9 ?_ | refine sub_p10 ?_ | refine sub_p11 ?_ | refine sub_p12 ?_ | refine sub_p13 ?_ | refine sub_p14 ?_ | refine sub_p15 ?_ | refine sub_drop ?_)))
    refine hno (adler (body y)) (adl y) ⟨rfl, ?_⟩
    rw [e]
    exact ⟨body y, rfl⟩
  have hl4 : 4 ≤ l.length := by have := hh.le (Nat.zero_le _); rw [enc_length] at this; omega
  have hsum : ∀ y, l = pkB y → a = adler (body y) ∧ l.drop 4 = body y := fun y e => ⟨(hu _ (adl y) (by rw [e]; exact ⟨body y, rfl⟩)).symm, by rw [e, pkB, summed_drop]⟩
  rw [enc_length, Nat.zero_add] at hS
  refine (rErr Z hS).mono fun r w5 ⟨hr, hw⟩ => ?_
  subst hr; subst hw
  refine r1 (run_neq_int _ _ _ _ _ _ _ _) ?_
  rw [h00]
  (try simp only [o_pickF, guardW_ff])
  refine r1 (run_slice_from el30 xa l.length c .i64 4 (by omega) (by omega) _) ?_
  refine (packSum Z (Rd.tail (hx _ (by (refine Sh.St.sub ?_ (hS); repeat (first | with_reducible exact sub_refl | with_reducible exact sub_nil | with_reducible refine sub_p0 ?_ | with_reducible refine sub_p1 ?_ | with_reducible refine sub_p2 ?_ | with_reducible refine sub_p3 ?_ | with_reducible refine sub_p4 ?_ | with_reducible refine sub_p5 ?_ | with_reducible refine sub_p6 ?_ | with_reducible refine sub_p7 ?_ | with_reducible refine sub_p8 ?_ | with_reducible refine sub_p9 ?_ | with_reducible refine sub_p10 ?_ | with_reducible refine sub_p11 ?_ | with_reducible refine sub_p12 ?_ | with_reducible refine sub_p13 ?_ | with_reducible refine sub_p14 ?_ | with_reducible refine sub_p15 ?_ | exact sub_refl | refine sub_p0 ?_ | refine sub_p1 ?_ | refine sub_p2 ?_ | refine sub_p3 ?_ | refine sub_p4 ?_ | refine sub_p5 ?_ | refine sub_p6 ?_ | refine sub_p7 ?_ | refine sub_p8 ?_ | refine sub_p9 ?_ | refine sub_p10 ?_ | refine sub_p11 ?_ | refine sub_p12 ?_ | refine sub_p13 ?_ | refine sub_p14 ?_ | refine sub_p15 ?_ | refine sub_drop ?_)))) hcap 4 hl4)).mono fun r w6 ⟨hr, hw⟩ => ?_
  subst hr; subst hw
  refine r1 (run_neq_int _ _ _ _ _ _ _ _) ?_
  by_cases hea : a = adler (l.drop 4)
  rotate_left
  · have hb : (a != adler (l.drop 4)) = true := by simpa using hea
    rw [hb]
    (try simp only [condT])
    refine stop _ pz _ (fun y hy hk e => ?_) (by (refine Sh.St.sub ?_ (hS); repeat (first | with_reducible exact sub_refl | with_reducible exact sub_nil | with_reducible refine sub_p0 ?_ | with_reducible refine sub_p1 ?_ | with_reducible refine sub_p2 ?_ | with_reducible refine sub_p3 ?_ | with_reducible refine sub_p4 ?_ | with_reducible refine sub_p5 ?_ | with_reducible refine sub_p6 ?_ | with_reducible refine sub_p7 ?_ | with_reducible refine sub_p8 ?_ | with_reducible refine sub_p9 ?_ | with_reducible refine sub_p10 ?_ | with_reducible refine sub_p11 ?_ | with_reducible refine sub_p12 ?_ | with_reducible refine sub_p13 ?_ | with_reducible refine sub_p14 ?_ | with_reducible refine sub_p15 ?_ | exact sub_refl | refine sub_p0 ?_ | refine sub_p1 ?_ | refine sub_p2 ?_ | refine sub_p3 ?_ | refine sub_p4 ?_ | refine sub_p5 ?_ | refine sub_p6 ?_ | refine sub_p7 ?_ | refine sub_p8 ?_ | refine sub_p9 ?_ | refine sub_p10 ?_ | refine sub_p11 ?_ | refine sub_p12 ?_ | refine sub_p13 ?_ | refine sub_p14 ?_ | refine sub_p15 ?_ | refine sub_drop ?_)))
    obtain ⟨h1, h2⟩ := hsum y e
    exact hea (by rw [h1, h2])
  have hb : (a != adler (l.drop 4)) = false := by simpa using hea
  rw [hb]
  (try simp only [condF])
  refine hj9 _ fun _ => ?_
  clear hj9
  refine (gInt8 Z hS).mono fun r w6 hq => ?_
  have nokd : ∀ {y : Pk}, Has l 4 (body y) → Has l 4 (enc 1 y.kd) := fun {y} h => by
    obtain ⟨rest, e2⟩ := fpre_add y.kd.toNat y 0 12
    have e2 : body y = enc 1 y.kd ++ rest := e2
    rw [e2] at h
    exact (Has.split.1 h).1
  rcases hq with ⟨kd, hkr, _, hhk, huk, rfl, hS⟩ | ⟨rfl, hno, off', e', ⟨he', _⟩, hS⟩
  rotate_left
  · (try simp only [fa_39_0, Nat.add_zero])
    refine r_store (hS.pick 2) one22 (show 0 < 32 by omega) rfl fun w7 hS => ?_
    have hS : St o w7 (blk g1 39 pz.cells :: RdrAt g B l off' e' :: blk g2 42 [.int .i64 0] :: R) := hS
    refine r_load one22 (hS.at m0 0 rfl) ?_
    refine (pnames Z 0 hM (by simp [ho]) hS).mono fun r w8 ⟨hr, hw⟩ => ?_
    subst hr; subst hw
    (try simp only [o_ext2_1, o_ext2_0])
    intro j17 hj17
    refine (rErr Z hS.swap).mono fun r w5 ⟨hr, hw⟩ => ?_
    subst hr; subst hw
    refine r1 (run_neq_int _ _ _ _ _ _ _ _) ?_
    rw [nz he']
    (try simp only [o_pickT, condT, guardW_tf])
    exact stop _ pz _ (fun y hy hk e => hno y.kd hy.kd ⟨rfl, nokd (pk_has e)⟩) (by (refine Sh.St.sub ?_ (hS); repeat (first | with_reducible exact sub_refl | with_reducible exact sub_nil | with_reducible refine sub_p0 ?_ | with_reducible refine sub_p1 ?_ | with_reducible refine sub_p2 ?_ | with_reducible refine sub_p3 ?_ | with_reducible refine sub_p4 ?_ | with_reducible refine sub_p5 ?_ | with_reducible refine sub_p6 ?_ | with_reducible refine sub_p7 ?_ | with_reducible refine sub_p8 ?_ | with_reducible refine sub_p9 ?_ | with_reducible refine sub_p10 ?_ | with_reducible refine sub_p11 ?_ | with_reducible refine sub_p12 ?_ | with_reducible refine sub_p13 ?_ | with_reducible refine sub_p14 ?_ | with_reducible refine sub_p15 ?_ | exact sub_refl | refine sub_p0 ?_ | refine sub_p1 ?_ | refine sub_p2 ?_ | refine sub_p3 ?_ | refine sub_p4 ?_ | refine sub_p5 ?_ | refine sub_p6 ?_ | refine sub_p7 ?_ | refine sub_p8 ?_ | refine sub_p9 ?_ | refine sub_p10 ?_ | refine sub_p11 ?_ | refine sub_p12 ?_ | refine sub_p13 ?_ | refine sub_p14 ?_ | refine sub_p15 ?_ | refine sub_drop ?_)))
  rw [enc_length] at hS
  (try simp only [fa_39_0, Nat.add_zero])
  refine r_store (hS.pick 2) one22 (show 0 < 32 by omega) rfl fun w7 hS => ?_
  have hS : St o w7 (blk g1 39 (pk0 kd).cells :: RdrAt g B l 5 0 :: blk g2 42 [.int .i64 0] :: R) := hS
  refine r_load one22 (hS.at m0 0 rfl) ?_
  refine (pnames Z kd hM (by simp [ho]) hS).mono fun r w8 ⟨hr, hw⟩ => ?_
  subst hr; subst hw
  (try simp only [o_ext2_1, o_ext2_0])
  intro j17 hj17
  refine (rErr Z hS.swap).mono fun r w5 ⟨hr, hw⟩ => ?_
  subst hr; subst hw
  refine r1 (run_neq_int _ _ _ _ _ _ _ _) ?_
  rw [h00]
  cases hkd : isKd kd with
  | false =>
    (try simp only [o_pickF, guardW_ff, o_not, Bool.not_false, condT])
    exact stop _ (pk0 kd) _ (fun y hy hk e => by
      have h1 := huk y.kd hy.kd (nokd (pk_has e))
      have h2 := (okP_iff.1 hk).1
      rw [h1, hkd] at h2
      cases h2) (by (refine Sh.St.sub ?_ (hS); repeat (first | with_reducible exact sub_refl | with_reducible exact sub_nil | with_reducible refine sub_p0 ?_ | with_reducible refine sub_p1 ?_ | with_reducible refine sub_p2 ?_ | with_reducible refine sub_p3 ?_ | with_reducible refine sub_p4 ?_ | with_reducible refine sub_p5 ?_ | with_reducible refine sub_p6 ?_ | with_reducible refine sub_p7 ?_ | with_reducible refine sub_p8 ?_ | with_reducible refine sub_p9 ?_ | with_reducible refine sub_p10 ?_ | with_reducible refine sub_p11 ?_ | with_reducible refine sub_p12 ?_ | with_reducible refine sub_p13 ?_ | with_reducible refine sub_p14 ?_ | with_reducible refine sub_p15 ?_ | exact sub_refl | refine sub_p0 ?_ | refine sub_p1 ?_ | refine sub_p2 ?_ | refine sub_p3 ?_ | refine sub_p4 ?_ | refine sub_p5 ?_ | refine sub_p6 ?_ | refine sub_p7 ?_ | refine sub_p8 ?_ | refine sub_p9 ?_ | refine sub_p10 ?_ | refine sub_p11 ?_ | refine sub_p12 ?_ | refine sub_p13 ?_ | refine sub_p14 ?_ | refine sub_p15 ?_ | refine sub_drop ?_)))
  | true =>
    have hK := isKd_le hkd
    rw [hkd] at hj17
    simp only [if_true] at hj17
    (try simp only [o_pickF, guardW_ff, o_not, Bool.not_true, condF])
    refine hj17 _ fun _ => ?_
    clear hj17
    refine (fieldsC Z hS).mono fun r w9 hS => ?_
    obtain ⟨fa, fc, e⟩ := hS.own_form
    subst e
    (try simp only [ln_77_3])
    have hS : St o w9 (RdrAt g B l 5 0 :: PSt g1 (pk0 kd) (own 83 4 (.slice fa 12 fc) 12 flds.flatten :: blk g2 42 [.int .i64 0] :: R)) := by
      have h1 := tz_own (hS.own_nil 5 1)
      have h1 : St o w9 (OwQ (pk0 kd).t.q :: own 5 1 (pk0 kd).bv (pk0 kd).b.length (cb (pk0 kd).b) :: own 83 4 (.slice fa 12 fc) 12 flds.flatten :: blk g1 39 (pk0 kd).cells :: RdrAt g B l 5 0 :: blk g2 42 [.int .i64 0] :: R) := h1
      unfold PSt
      (refine Sh.St.sub ?_ (h1); repeat (first | with_reducible exact sub_refl | with_reducible exact sub_nil | with_reducible refine sub_p0 ?_ | with_reducible refine sub_p1 ?_ | with_reducible refine sub_p2 ?_ | with_reducible refine sub_p3 ?_ | with_reducible refine sub_p4 ?_ | with_reducible refine sub_p5 ?_ | with_reducible refine sub_p6 ?_ | with_reducible refine sub_p7 ?_ | with_reducible refine sub_p8 ?_ | with_reducible refine sub_p9 ?_ | with_reducible refine sub_p10 ?_ | with_reducible refine sub_p11 ?_ | with_reducible refine sub_p12 ?_ | with_reducible refine sub_p13 ?_ | with_reducible refine sub_p14 ?_ | with_reducible refine sub_p15 ?_ | exact sub_refl | refine sub_p0 ?_ | refine sub_p1 ?_ | refine sub_p2 ?_ | refine sub_p3 ?_ | refine sub_p4 ?_ | refine sub_p5 ?_ | refine sub_p6 ?_ | refine sub_p7 ?_ | refine sub_p8 ?_ | refine sub_p9 ?_ | refine sub_p10 ?_ | refine sub_p11 ?_ | refine sub_p12 ?_ | refine sub_p13 ?_ | refine sub_p14 ?_ | refine sub_p15 ?_ | refine sub_drop ?_))
    refine ⟨fun m y w' => ∃ i : Nat, y = .int .i64 i ∧ m + i = 12 ∧ ∃ (p : Pk) (off : Nat) (err : Int), (err = 0 → WfP p) ∧ RdC l kd i p off err ∧ St o w' (RdrAt g B l off err :: PSt g1 p (own 83 4 (.slice fa 12 fc) 12 flds.flatten :: blk g2 42 [.int .i64 0] :: R)),
      ⟨12, 0, rfl, rfl, pk0 kd, 5, 0, fun _ => pk0_wf hkr, .inl ⟨rfl, rfl, ?_, hhk, fun j hj _ => pk0_zr kd hj, fun y hy hk e => ⟨huk y.kd hy.kd (nokd e), fun j hj => by omega⟩⟩, hS⟩, ?_⟩
    · show 5 = 4 + (enc 1 kd).length
      rw [enc_length]
    clear hS
    rintro m _ w10 ⟨i, rfl, hi, p, off, err, hwf, hC, hS⟩ _
    by_cases hlt : (i : Int) < ((12 : Nat) : Int)
    · have hil : i < 12 := by omega
      (try simp only [o_add, o_lss, hlt, decide_true, condT])
      intro j9 hj9
      have HJ : ∀ w' (p : Pk) (off : Nat) (err : Int), (err = 0 → WfP p) → RdC l kd (i + 1) p off err → St o w' (RdrAt g B l off err :: PSt g1 p (own 83 4 (.slice fa 12 fc) 12 flds.flatten :: blk g2 42 [.int .i64 0] :: R)) → j9 w' := fun w' p off err hwf hC hS => by
        refine hj9 w' fun _ => ?_
        rw [wr_i64 (x := (i : Int) + 1) (by omega) (by omega)]
        exact ⟨m - 1, by omega, i + 1, rfl, by omega, p, off, err, hwf, hC, hS⟩
      clear hj9
      have hS : St o w10 (own 83 4 (.slice fa 12 fc) 12 flds.flatten :: RdrAt g B l off err :: PSt g1 p (blk g2 42 [.int .i64 0] :: R)) := by unfold PSt; unfold PSt at hS; (refine Sh.St.sub ?_ (hS); repeat (first | with_reducible exact sub_refl | with_reducible exact sub_nil | with_reducible refine sub_p0 ?_ | with_reducible refine sub_p1 ?_ | with_reducible refine sub_p2 ?_ | with_reducible refine sub_p3 ?_ | with_reducible refine sub_p4 ?_ | with_reducible refine sub_p5 ?_ | with_reducible refine sub_p6 ?_ | with_reducible refine sub_p7 ?_ | with_reducible refine sub_p8 ?_ | with_reducible refine sub_p9 ?_ | with_reducible refine sub_p10 ?_ | with_reducible refine sub_p11 ?_ | with_reducible refine sub_p12 ?_ | with_reducible refine sub_p13 ?_ | with_reducible refine sub_p14 ?_ | with_reducible refine sub_p15 ?_ | exact sub_refl | refine sub_p0 ?_ | refine sub_p1 ?_ | refine sub_p2 ?_ | refine sub_p3 ?_ | refine sub_p4 ?_ | refine sub_p5 ?_ | refine sub_p6 ?_ | refine sub_p7 ?_ | refine sub_p8 ?_ | refine sub_p9 ?_ | refine sub_p10 ?_ | refine sub_p11 ?_ | refine sub_p12 ?_ | refine sub_p13 ?_ | refine sub_p14 ?_ | refine sub_p15 ?_ | refine sub_drop ?_))
      obtain ⟨b, q, hp, hc⟩ := (hS.own_rd m0).adr el77 .i64 i hil
      have hcc : ∀ j v, (fld i)[j]? = some v → w10.cell? ((⟨b, q, none⟩ : Addr).add j) = some v := fun j v hv => by
        rw [add_addr]
        exact hc w10 (hS.own_rd m0) j v (by rw [flds_cut hil]; exact hv)
      refine r1 (hp _) (r_loadN ag83 (xs := fld i) rfl hcc ?_)
      refine r_alloc hS ze83 fun gf w11 hS => ?_
      refine r_storeN hS ag83 (xs := fld i) rfl (show 0 + 4 ≤ 4 from Nat.le_refl _) (fld_ones hil) fun w12 hS => ?_
      rw [setL_all _ _ (by rfl)] at hS
      (try simp only [fa_83_2, Nat.zero_add, fa_83_0, Nat.add_zero])
      refine r_load one3 (hS.at m0 0 rfl) ?_
      obtain ⟨v, hv, _, hv1⟩ := andB kd.toNat i hK (by omega) ((2 ^ i : Nat) : Int) rfl
      refine r1 (hv _ _) ?_
      refine r1 (run_neq_int _ _ _ _ _ _ _ _) ?_
      rw [hv1]
      cases hh : hasF kd.toNat i with
      | true =>
        (try simp only [condT])
        refine r_load one80 (hS.at m0 2 rfl) ?_
        refine getAt Z (g := g) (gp := g1) (p := p) (B := B) (all := l) (off := off) (err := err) (R := blk gf 83 (fld i) :: own 83 4 (.slice fa 12 fc) 12 flds.flatten :: blk g2 42 [.int .i64 0] :: R) hil hN (by simp [ho]) hl (fun w' p' hno hS => hZ _ _ (readStop (rdC_bad hC hil hh hno) (by unfold PSt at hS; (refine Sh.St.sub ?_ (hS); repeat (first | with_reducible exact sub_refl | with_reducible exact sub_nil | with_reducible refine sub_p0 ?_ | with_reducible refine sub_p1 ?_ | with_reducible refine sub_p2 ?_ | with_reducible refine sub_p3 ?_ | with_reducible refine sub_p4 ?_ | with_reducible refine sub_p5 ?_ | with_reducible refine sub_p6 ?_ | with_reducible refine sub_p7 ?_ | with_reducible refine sub_p8 ?_ | with_reducible refine sub_p9 ?_ | with_reducible refine sub_p10 ?_ | with_reducible refine sub_p11 ?_ | with_reducible refine sub_p12 ?_ | with_reducible refine sub_p13 ?_ | with_reducible refine sub_p14 ?_ | with_reducible refine sub_p15 ?_ | exact sub_refl | refine sub_p0 ?_ | refine sub_p1 ?_ | refine sub_p2 ?_ | refine sub_p3 ?_ | refine sub_p4 ?_ | refine sub_p5 ?_ | refine sub_p6 ?_ | refine sub_p7 ?_ | refine sub_p8 ?_ | refine sub_p9 ?_ | refine sub_p10 ?_ | refine sub_p11 ?_ | refine sub_p12 ?_ | refine sub_p13 ?_ | refine sub_p14 ?_ | refine sub_p15 ?_ | refine sub_drop ?_))))) hwf (by unfold PSt; unfold PSt at hS; (refine Sh.St.sub ?_ (hS); repeat (first | with_reducible exact sub_refl | with_reducible exact sub_nil | with_reducible refine sub_p0 ?_ | with_reducible refine sub_p1 ?_ | with_reducible refine sub_p2 ?_ | with_reducible refine sub_p3 ?_ | with_reducible refine sub_p4 ?_ | with_reducible refine sub_p5 ?_ | with_reducible refine sub_p6 ?_ | with_reducible refine sub_p7 ?_ | with_reducible refine sub_p8 ?_ | with_reducible refine sub_p9 ?_ | with_reducible refine sub_p10 ?_ | with_reducible refine sub_p11 ?_ | with_reducible refine sub_p12 ?_ | with_reducible refine sub_p13 ?_ | with_reducible refine sub_p14 ?_ | with_reducible refine sub_p15 ?_ | exact sub_refl | refine sub_p0 ?_ | refine sub_p1 ?_ | refine sub_p2 ?_ | refine sub_p3 ?_ | refine sub_p4 ?_ | refine sub_p5 ?_ | refine sub_p6 ?_ | refine sub_p7 ?_ | refine sub_p8 ?_ | refine sub_p9 ?_ | refine sub_p10 ?_ | refine sub_p11 ?_ | refine sub_p12 ?_ | refine sub_p13 ?_ | refine sub_p14 ?_ | refine sub_p15 ?_ | refine sub_drop ?_))) fun r w' hq => ?_
        rcases hq with ⟨p', hk, heq, hwf', he, hhas, hu, hS⟩ | ⟨p', hno, off', e', he', hS⟩
        · exact HJ w' p' _ 0 (fun _ => hwf') (rdC_good hC he hil hh hk heq hhas hu) (by unfold PSt; unfold PSt at hS; (refine Sh.St.sub ?_ (hS); repeat (first | with_reducible exact sub_refl | with_reducible exact sub_nil | with_reducible refine sub_p0 ?_ | with_reducible refine sub_p1 ?_ | with_reducible refine sub_p2 ?_ | with_reducible refine sub_p3 ?_ | with_reducible refine sub_p4 ?_ | with_reducible refine sub_p5 ?_ | with_reducible refine sub_p6 ?_ | with_reducible refine sub_p7 ?_ | with_reducible refine sub_p8 ?_ | with_reducible refine sub_p9 ?_ | with_reducible refine sub_p10 ?_ | with_reducible refine sub_p11 ?_ | with_reducible refine sub_p12 ?_ | with_reducible refine sub_p13 ?_ | with_reducible refine sub_p14 ?_ | with_reducible refine sub_p15 ?_ | exact sub_refl | refine sub_p0 ?_ | refine sub_p1 ?_ | refine sub_p2 ?_ | refine sub_p3 ?_ | refine sub_p4 ?_ | refine sub_p5 ?_ | refine sub_p6 ?_ | refine sub_p7 ?_ | refine sub_p8 ?_ | refine sub_p9 ?_ | refine sub_p10 ?_ | refine sub_p11 ?_ | refine sub_p12 ?_ | refine sub_p13 ?_ | refine sub_p14 ?_ | refine sub_p15 ?_ | refine sub_drop ?_)))
        · exact HJ w' p' off' e' (fun h => absurd h he') (.inr ⟨he', rdC_bad hC hil hh hno⟩) (by unfold PSt; unfold PSt at hS; (refine Sh.St.sub ?_ (hS); repeat (first | with_reducible exact sub_refl | with_reducible exact sub_nil | with_reducible refine sub_p0 ?_ | with_reducible refine sub_p1 ?_ | with_reducible refine sub_p2 ?_ | with_reducible refine sub_p3 ?_ | with_reducible refine sub_p4 ?_ | with_reducible refine sub_p5 ?_ | with_reducible refine sub_p6 ?_ | with_reducible refine sub_p7 ?_ | with_reducible refine sub_p8 ?_ | with_reducible refine sub_p9 ?_ | with_reducible refine sub_p10 ?_ | with_reducible refine sub_p11 ?_ | with_reducible refine sub_p12 ?_ | with_reducible refine sub_p13 ?_ | with_reducible refine sub_p14 ?_ | with_reducible refine sub_p15 ?_ | exact sub_refl | refine sub_p0 ?_ | refine sub_p1 ?_ | refine sub_p2 ?_ | refine sub_p3 ?_ | refine sub_p4 ?_ | refine sub_p5 ?_ | refine sub_p6 ?_ | refine sub_p7 ?_ | refine sub_p8 ?_ | refine sub_p9 ?_ | refine sub_p10 ?_ | refine sub_p11 ?_ | refine sub_p12 ?_ | refine sub_p13 ?_ | refine sub_p14 ?_ | refine sub_p15 ?_ | refine sub_drop ?_)))
      | false =>
        (try simp only [condF])
        exact HJ _ p off err hwf (rdC_skip hC hh) (by unfold PSt; unfold PSt at hS; (refine Sh.St.sub ?_ (hS); repeat (first | with_reducible exact sub_refl | with_reducible exact sub_nil | with_reducible refine sub_p0 ?_ | with_reducible refine sub_p1 ?_ | with_reducible refine sub_p2 ?_ | with_reducible refine sub_p3 ?_ | with_reducible refine sub_p4 ?_ | with_reducible refine sub_p5 ?_ | with_reducible refine sub_p6 ?_ | with_reducible refine sub_p7 ?_ | with_reducible refine sub_p8 ?_ | with_reducible refine sub_p9 ?_ | with_reducible refine sub_p10 ?_ | with_reducible refine sub_p11 ?_ | with_reducible refine sub_p12 ?_ | with_reducible refine sub_p13 ?_ | with_reducible refine sub_p14 ?_ | with_reducible refine sub_p15 ?_ | exact sub_refl | refine sub_p0 ?_ | refine sub_p1 ?_ | refine sub_p2 ?_ | refine sub_p3 ?_ | refine sub_p4 ?_ | refine sub_p5 ?_ | refine sub_p6 ?_ | refine sub_p7 ?_ | refine sub_p8 ?_ | refine sub_p9 ?_ | refine sub_p10 ?_ | refine sub_p11 ?_ | refine sub_p12 ?_ | refine sub_p13 ?_ | refine sub_p14 ?_ | refine sub_p15 ?_ | refine sub_drop ?_)))
    · have hie : i = 12 := by omega
      subst hie
      (try simp only [o_add, o_lss, hlt, decide_false, condF])
      intro j35 hj35
      refine (rEnd Z hS).mono fun r w11 ⟨hr, hw⟩ => ?_
      subst hr; subst hw
      refine r1 (run_neq_int _ _ _ _ _ _ _ _) ?_
      by_cases hmore : err ≠ 0 ∨ off < l.length
      · have hb : ((if err = 0 ∧ off < l.length then 13 else err) != (0 : Int)) = true := by
          split
          · rfl
          · rename_i hn; exact nz (hmore.elim id fun h => fun h0 => hn ⟨h0, h⟩)
        rw [hb]
        (try simp only [o_pickT, condT, guardW_tf])
        exact stop _ p _ (rdC_more hC hmore) (by unfold PSt at hS; (refine Sh.St.sub ?_ (hS); repeat (first | with_reducible exact sub_refl | with_reducible exact sub_nil | with_reducible refine sub_p0 ?_ | with_reducible refine sub_p1 ?_ | with_reducible refine sub_p2 ?_ | with_reducible refine sub_p3 ?_ | with_reducible refine sub_p4 ?_ | with_reducible refine sub_p5 ?_ | with_reducible refine sub_p6 ?_ | with_reducible refine sub_p7 ?_ | with_reducible refine sub_p8 ?_ | with_reducible refine sub_p9 ?_ | with_reducible refine sub_p10 ?_ | with_reducible refine sub_p11 ?_ | with_reducible refine sub_p12 ?_ | with_reducible refine sub_p13 ?_ | with_reducible refine sub_p14 ?_ | with_reducible refine sub_p15 ?_ | exact sub_refl | refine sub_p0 ?_ | refine sub_p1 ?_ | refine sub_p2 ?_ | refine sub_p3 ?_ | refine sub_p4 ?_ | refine sub_p5 ?_ | refine sub_p6 ?_ | refine sub_p7 ?_ | refine sub_p8 ?_ | refine sub_p9 ?_ | refine sub_p10 ?_ | refine sub_p11 ?_ | refine sub_p12 ?_ | refine sub_p13 ?_ | refine sub_p14 ?_ | refine sub_p15 ?_ | refine sub_drop ?_)))
      · have he : err = 0 := Decidable.byContradiction fun h => hmore (.inl h)
        have hle : ¬ off < l.length := fun h => hmore (.inr h)
        have hb : ((if err = 0 ∧ off < l.length then 13 else err) != (0 : Int)) = false := by rw [if_neg (fun h => hle h.2), he]; rfl
        rw [hb]
        (try simp only [o_pickF, guardW_ff])
        have hS : St o w11 (blk g1 39 p.cells :: OwQ p.t.q :: own 5 1 p.bv p.b.length (cb p.b) :: blk g2 42 [.int .i64 0] :: R) := by unfold PSt at hS; (refine Sh.St.sub ?_ (hS); repeat (first | with_reducible exact sub_refl | with_reducible exact sub_nil | with_reducible refine sub_p0 ?_ | with_reducible refine sub_p1 ?_ | with_reducible refine sub_p2 ?_ | with_reducible refine sub_p3 ?_ | with_reducible refine sub_p4 ?_ | with_reducible refine sub_p5 ?_ | with_reducible refine sub_p6 ?_ | with_reducible refine sub_p7 ?_ | with_reducible refine sub_p8 ?_ | with_reducible refine sub_p9 ?_ | with_reducible refine sub_p10 ?_ | with_reducible refine sub_p11 ?_ | with_reducible refine sub_p12 ?_ | with_reducible refine sub_p13 ?_ | with_reducible refine sub_p14 ?_ | with_reducible refine sub_p15 ?_ | exact sub_refl | refine sub_p0 ?_ | refine sub_p1 ?_ | refine sub_p2 ?_ | refine sub_p3 ?_ | refine sub_p4 ?_ | refine sub_p5 ?_ | refine sub_p6 ?_ | refine sub_p7 ?_ | refine sub_p8 ?_ | refine sub_p9 ?_ | refine sub_p10 ?_ | refine sub_p11 ?_ | refine sub_p12 ?_ | refine sub_p13 ?_ | refine sub_p14 ?_ | refine sub_p15 ?_ | refine sub_drop ?_))
        have hrd : Ent o (blk g1 39 p.cells :: OwQ p.t.q :: own 5 1 p.bv p.b.length (cb p.b) :: blk g2 42 [.int .i64 0] :: R) fun w => RdP w p := fun w hw => ⟨OwQ.rd _ (hw.pick 1), hw.own_rd m2⟩
        refine r_loadN ag39 (xs := p.cells) rfl (hS.cells_at m0 0 (whole_at _)) ?_
        refine (chkP Z hN hM (by simp [ho]) hrd hS).mono fun r w12 ⟨hr, hS⟩ => ?_
        subst hr
        refine r1 (run_neq_int _ _ _ _ _ _ _ _) ?_
        cases hok : okP p with
        | false =>
          have h150 : ((150 : Int) != 0) = true := rfl
          simp only [if_neg Bool.false_ne_true, h150]
          (try simp only [condT])
          exact stop _ p _ (rdC_not hC hok) (by (refine Sh.St.sub ?_ (hS); repeat (first | with_reducible exact sub_refl | with_reducible exact sub_nil | with_reducible refine sub_p0 ?_ | with_reducible refine sub_p1 ?_ | with_reducible refine sub_p2 ?_ | with_reducible refine sub_p3 ?_ | with_reducible refine sub_p4 ?_ | with_reducible refine sub_p5 ?_ | with_reducible refine sub_p6 ?_ | with_reducible refine sub_p7 ?_ | with_reducible refine sub_p8 ?_ | with_reducible refine sub_p9 ?_ | with_reducible refine sub_p10 ?_ | with_reducible refine sub_p11 ?_ | with_reducible refine sub_p12 ?_ | with_reducible refine sub_p13 ?_ | with_reducible refine sub_p14 ?_ | with_reducible refine sub_p15 ?_ | exact sub_refl | refine sub_p0 ?_ | refine sub_p1 ?_ | refine sub_p2 ?_ | refine sub_p3 ?_ | refine sub_p4 ?_ | refine sub_p5 ?_ | refine sub_p6 ?_ | refine sub_p7 ?_ | refine sub_p8 ?_ | refine sub_p9 ?_ | refine sub_p10 ?_ | refine sub_p11 ?_ | refine sub_p12 ?_ | refine sub_p13 ?_ | refine sub_p14 ?_ | refine sub_p15 ?_ | refine sub_drop ?_)))
        | true =>
          simp only [if_true, h00]
          (try simp only [condF])
          refine hj35 _ fun _ => ?_
          have hpl : l = pkB p := rdC_end hC he hle hl4 ?_
          rotate_left
          · obtain ⟨rest, hr⟩ := hh
            rw [List.drop_zero] at hr
            have : l.drop 4 = rest := by rw [hr, List.drop_left' (enc_length _ _)]
            rw [← hea, this]
            exact hr.symm
          refine r_loadN ag39 (xs := p.cells) rfl (hS.cells_at m0 0 (whole_at _)) ?_
          refine r_storeN hS ag39 (xs := p.cells) rfl (show 0 + 32 ≤ 32 from Nat.le_refl _) (hrd _ hS).ones fun w13 hS => ?_
          rw [setL_all _ _ (by rfl)] at hS
          refine r_store (hS.pick 3) one42 (show 0 < 1 by omega) rfl fun w14 hS => ?_
          refine r_leave en43 (l := [.pointer (some ⟨g1, 0, none⟩), .pointer (some ⟨g2, 0, none⟩)]) rfl (f43.callD ?_)
          unfold f43.rec
          refine recV_no ?_
          refine r1 (run_neq_any0 (by kernel_rfl) _ _) ?_
          (try simp only [condF])
          refine ⟨rfl, r_resN ag39 (xs := p.cells) rfl (hS.cells_at m1 0 (whole_at _)) (r_res one42 (hS.at m0 0 rfl) (.inl ⟨p, hok, hwf he, hpl, rdC_same hC he, rfl, ?_⟩))⟩
          have hS : St o w14 (blk g2 42 [.int .i64 0] :: _) := hS
          (refine Sh.St.sub ?_ (hS); repeat (first | with_reducible exact sub_refl | with_reducible exact sub_nil | with_reducible refine sub_p0 ?_ | with_reducible refine sub_p1 ?_ | with_reducible refine sub_p2 ?_ | with_reducible refine sub_p3 ?_ | with_reducible refine sub_p4 ?_ | with_reducible refine sub_p5 ?_ | with_reducible refine sub_p6 ?_ | with_reducible refine sub_p7 ?_ | with_reducible refine sub_p8 ?_ | with_reducible refine sub_p9 ?_ | with_reducible refine sub_p10 ?_ | with_reducible refine sub_p11 ?_ | with_reducible refine sub_p12 ?_ | with_reducible refine sub_p13 ?_ | with_reducible refine sub_p14 ?_ | with_reducible refine sub_p15 ?_ | exact sub_refl | refine sub_p0 ?_ | refine sub_p1 ?_ | refine sub_p2 ?_ | refine sub_p3 ?_ | refine sub_p4 ?_ | refine sub_p5 ?_ | refine sub_p6 ?_ | refine sub_p7 ?_ | refine sub_p8 ?_ | refine sub_p9 ?_ | refine sub_p10 ?_ | refine sub_p11 ?_ | refine sub_p12 ?_ | refine sub_p13 ?_ | refine sub_p14 ?_ | refine sub_p15 ?_ | refine sub_drop ?_))
end
end Go.Proofs.YtfafkgbipjhcaaaGreatDoor
