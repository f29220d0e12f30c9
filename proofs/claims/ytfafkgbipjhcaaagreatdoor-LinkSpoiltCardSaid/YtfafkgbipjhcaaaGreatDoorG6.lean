/- What reads each of a packet's fields. Printed by wip/sh/mkG6.py. -/
import Derived.Test.YtfafkgbipjhcaaaGreatDoorG5
import Derived.Test.YtfafkgbipjhcaaaGreatDoorShDefer
import Derived.WalkSmall
set_option linter.unusedVariables false
set_option linter.unusedSimpArgs false
namespace Go.Proofs.YtfafkgbipjhcaaaGreatDoor
open Go.Sh
def PSt (gp : Nat) (p : Pk) (R : List HProp) : List HProp := blk gp 39 p.cells :: OwQ p.t.q :: own 5 1 p.bv p.b.length (cb p.b) :: R
def spoiltV : Value := .iface 100 (.agg #[])
def Got (i : Nat) (p : Pk) (g gp : Nat) (B : Option Nat) (all : List UInt8) (off : Nat) (err : Int) (o : World) (R : List HProp) (w' : World) : Prop :=
  (∃ p' : Pk, p'.kd = p.kd ∧ (∀ j, j < 12 → j ≠ i → eqF p' p j) ∧ WfP p' ∧ err = 0 ∧ Has all off (fb p' i) ∧ (∀ y, WfP y → rt y i = true → Has all off (fb y i) → sameF y p' i) ∧ St o w' (RdrAt g B all (off + (fb p' i).length) 0 :: PSt gp p' R)) ∨
  (∃ p' : Pk, (∀ y, WfP y → rt y i = true → ¬ (err = 0 ∧ Has all off (fb y i))) ∧ ∃ off' e', e' ≠ 0 ∧ St o w' (RdrAt g B all off' e' :: PSt gp p' R))
section
variable (Z : List PanicEntry → World → Prop) {o w : World} {R As : List HProp} {g gp : Nat} {p : Pk} {B : Option Nat} {all : List UInt8} {off : Nat} {err : Int}
theorem getConnC (h : St o w (RdrAt g B all off err :: R)) : CallV Tryz.prog Z 112 #[.pointer (some ⟨g, 0, none⟩)] w fun r w' =>
    (∃ a b, u32r a ∧ u32r b ∧ err = 0 ∧ Has all off (enc 4 a ++ enc 4 b) ∧ (∀ c d, u32r c → u32r d → Has all off (enc 4 c ++ enc 4 d) → c = a ∧ d = b) ∧ r = .agg (zx a b).toArray ∧ St o w' (RdrAt g B all (off + 8) 0 :: R)) ∨
    (∃ a b, (∀ c d, u32r c → u32r d → ¬ (err = 0 ∧ Has all off (enc 4 c ++ enc 4 d))) ∧ r = .agg (zx a b).toArray ∧ ∃ off' e', e' ≠ 0 ∧ St o w' (RdrAt g B all off' e' :: R)) := by
  refine f112.calls ?_
  unfold f112.sh
  refine r_alloc h ze25 fun gz w1 hS => ?_
  have hS : St o w1 (blk gz 25 (zx 0 0) :: RdrAt g B all off err :: R) := hS
  have fin : ∀ (a b : Int) (w : World) (As : List HProp) (Q : Value → World → Prop), St o w (blk gz 25 (zx 0 0) :: As) → (∀ w', St o w' As → Q (.agg (zx a b).toArray) w') →
      run1 Tryz.prog Z (Instr.build 25 #[(0, .int .u32 a), (1, .int .u32 b)]) w fun t4 w => run0 Tryz.prog Z (Instr.storeAt 25 (.pointer (some ⟨gz, 0, none⟩)) t4) w fun w =>
        ∃ r, (do loadVar 25 (← asAddr (.pointer (some ⟨gz, 0, none⟩))) : Sem Value).run Tryz.prog w = .ok r w ∧ Q r w := by
    intro a b w As Q hS hQ
    refine r_build (cells := (zx a b).toArray) (by kernel_rfl) ?_
    refine r_storeN hS ag25 (xs := zx a b) rfl (show 0 + 2 ≤ 2 from Nat.le_refl _) (zx_ones _ _) fun w2 hS => ?_
    rw [setL_all _ _ (by rfl)] at hS
    exact r_resN ag25 (xs := zx a b) rfl (hS.cells_at m0 0 (whole_at _)) (hQ _ hS.drop)
  refine (gUint32 Z hS.swap).mono fun r w2 hq => ?_
  rcases hq with ⟨a, ha, he, hh, hu, rfl, hS⟩ | ⟨rfl, hno, off', e', ⟨he', _⟩, hS⟩
  · rw [enc_length] at hS
    refine (gUint32 Z hS).mono fun r w3 hq => ?_
    rcases hq with ⟨b, hb, he2, hh2, hu2, rfl, hS⟩ | ⟨rfl, hno, off', e', ⟨he', _⟩, hS⟩
    · rw [enc_length] at hS
      refine fin a b _ _ _ hS.swap fun w' hS => .inl ⟨a, b, ha, hb, he, Has.split.2 ⟨hh, by rw [enc_length]; exact hh2⟩, fun c d hc hd hcd => ?_, rfl, hS⟩
      obtain ⟨h1, h2⟩ := Has.split.1 hcd
      rw [enc_length] at h2
      exact ⟨hu c hc h1, hu2 d hd h2⟩
    · refine fin a 0 _ _ _ hS.swap fun w' hS => .inr ⟨a, 0, fun c d hc hd ⟨_, hcd⟩ => ?_, rfl, off', e', he', hS⟩
      obtain ⟨h1, h2⟩ := Has.split.1 hcd
      rw [enc_length] at h2
      exact hno d hd ⟨rfl, h2⟩
  · refine (gUint32 Z hS).mono fun r w3 hq => ?_
    rcases hq with ⟨b, hb, he2, _⟩ | ⟨rfl, _, off2, e2, ⟨he2, _⟩, hS⟩
    · exact absurd he2 he'
    · exact fin 0 0 _ _ _ hS.swap fun w' hS => .inr ⟨0, 0, fun c d hc hd ⟨h0, hcd⟩ => hno c hc ⟨h0, (Has.split.1 hcd).1⟩, rfl, off2, e2, he2, hS⟩
theorem getZxidC (h : St o w (RdrAt g B all off err :: R)) : CallV Tryz.prog Z 65 #[.pointer (some ⟨g, 0, none⟩)] w fun r w' =>
    (∃ a b, u32r a ∧ u32r b ∧ err = 0 ∧ Has all off (enc 4 a ++ enc 4 b) ∧ (∀ c d, u32r c → u32r d → Has all off (enc 4 c ++ enc 4 d) → c = a ∧ d = b) ∧ r = .agg (zx a b).toArray ∧ St o w' (RdrAt g B all (off + 8) 0 :: R)) ∨
    (∃ a b, (∀ c d, u32r c → u32r d → ¬ (err = 0 ∧ Has all off (enc 4 c ++ enc 4 d))) ∧ r = .agg (zx a b).toArray ∧ ∃ off' e', e' ≠ 0 ∧ St o w' (RdrAt g B all off' e' :: R)) := by
  refine f65.calls ?_
  unfold f65.sh
  refine r_alloc h ze27 fun gz w1 hS => ?_
  have hS : St o w1 (blk gz 27 (zx 0 0) :: RdrAt g B all off err :: R) := hS
  have fin : ∀ (a b : Int) (w : World) (As : List HProp) (Q : Value → World → Prop), St o w (blk gz 27 (zx 0 0) :: As) → (∀ w', St o w' As → Q (.agg (zx a b).toArray) w') →
      run1 Tryz.prog Z (Instr.build 27 #[(0, .int .u32 a), (1, .int .u32 b)]) w fun t4 w => run0 Tryz.prog Z (Instr.storeAt 27 (.pointer (some ⟨gz, 0, none⟩)) t4) w fun w =>
        ∃ r, (do loadVar 27 (← asAddr (.pointer (some ⟨gz, 0, none⟩))) : Sem Value).run Tryz.prog w = .ok r w ∧ Q r w := by
    intro a b w As Q hS hQ
    refine r_build (cells := (zx a b).toArray) (by kernel_rfl) ?_
    refine r_storeN hS ag27 (xs := zx a b) rfl (show 0 + 2 ≤ 2 from Nat.le_refl _) (zx_ones _ _) fun w2 hS => ?_
    rw [setL_all _ _ (by rfl)] at hS
    exact r_resN ag27 (xs := zx a b) rfl (hS.cells_at m0 0 (whole_at _)) (hQ _ hS.drop)
  refine (gUint32 Z hS.swap).mono fun r w2 hq => ?_
  rcases hq with ⟨a, ha, he, hh, hu, rfl, hS⟩ | ⟨rfl, hno, off', e', ⟨he', _⟩, hS⟩
  · rw [enc_length] at hS
    refine (gUint32 Z hS).mono fun r w3 hq => ?_
    rcases hq with ⟨b, hb, he2, hh2, hu2, rfl, hS⟩ | ⟨rfl, hno, off', e', ⟨he', _⟩, hS⟩
    · rw [enc_length] at hS
      refine fin a b _ _ _ hS.swap fun w' hS => .inl ⟨a, b, ha, hb, he, Has.split.2 ⟨hh, by rw [enc_length]; exact hh2⟩, fun c d hc hd hcd => ?_, rfl, hS⟩
      obtain ⟨h1, h2⟩ := Has.split.1 hcd
      rw [enc_length] at h2
      exact ⟨hu c hc h1, hu2 d hd h2⟩
    · refine fin a 0 _ _ _ hS.swap fun w' hS => .inr ⟨a, 0, fun c d hc hd ⟨_, hcd⟩ => ?_, rfl, off', e', he', hS⟩
      obtain ⟨h1, h2⟩ := Has.split.1 hcd
      rw [enc_length] at h2
      exact hno d hd ⟨rfl, h2⟩
  · refine (gUint32 Z hS).mono fun r w3 hq => ?_
    rcases hq with ⟨b, hb, he2, _⟩ | ⟨rfl, _, off2, e2, ⟨he2, _⟩, hS⟩
    · exact absurd he2 he'
    · exact fin 0 0 _ _ _ hS.swap fun w' hS => .inr ⟨0, 0, fun c d hc hd ⟨h0, hcd⟩ => hno c hc ⟨h0, (Has.split.1 hcd).1⟩, rfl, off2, e2, he2, hS⟩
theorem get0 (hw : err = 0 → WfP p) (h : St o w (RdrAt g B all off err :: PSt gp p R)) : CallV Tryz.prog Z 111 #[.pointer (some ⟨g, 0, none⟩), .pointer (some ⟨gp, 0, none⟩)] w fun r w' => Got 0 p g gp B all off err o R w' := by
  refine f111.calls ?_
  unfold f111.sh
  refine (getConnC Z h).mono fun r w1 hq => ?_
  rcases hq with ⟨a, b, ha, hb, he, hh, hu, rfl, hS⟩ | ⟨a, b, hno, rfl, off', e', he', hS⟩
  · (try simp only [o_chk, fa_39_1, Nat.zero_add])
    refine r_storeN (hS.pick 1) ag25 (xs := zx a b) rfl (show 1 + 2 ≤ 32 by omega) (zx_ones _ _) fun w2 hS => ?_
    refine .inl ⟨{ p with cb := a, ct := b }, rfl, fun j hj hne => by
      have hi := hj
      obtain rfl | rfl | rfl | rfl | rfl | rfl | rfl | rfl | rfl | rfl | rfl | rfl := lt12 hi <;> first | exact absurd rfl hne | exact ⟨rfl, rfl⟩ | rfl, { hw he with cb := ha, ct := hb }, he, hh, fun y hy _ hyh => ?_, ?_⟩
    · exact hu _ _ hy.cb hy.ct hyh
    · have e : (fb { p with cb := a, ct := b } 0).length = 8 := by simp [fb, enc_length]
      rw [e]
      exact hS.swap
  · (try simp only [o_chk, fa_39_1, Nat.zero_add])
    refine r_storeN (hS.pick 1) ag25 (xs := zx a b) rfl (show 1 + 2 ≤ 32 by omega) (zx_ones _ _) fun w2 hS => ?_
    exact .inr ⟨{ p with cb := a, ct := b }, fun y hy _ hyh => hno _ _ hy.cb hy.ct hyh, off', e', he', hS.swap⟩
theorem get1 (hw : err = 0 → WfP p) (h : St o w (RdrAt g B all off err :: PSt gp p R)) : CallV Tryz.prog Z 116 #[.pointer (some ⟨g, 0, none⟩), .pointer (some ⟨gp, 0, none⟩)] w fun r w' => Got 1 p g gp B all off err o R w' := by
  refine f116.calls ?_
  unfold f116.sh
  refine (getConnC Z h).mono fun r w1 hq => ?_
  rcases hq with ⟨a, b, ha, hb, he, hh, hu, rfl, hS⟩ | ⟨a, b, hno, rfl, off', e', he', hS⟩
  · (try simp only [o_chk, fa_39_2, Nat.zero_add])
    refine r_storeN (hS.pick 1) ag25 (xs := zx a b) rfl (show 3 + 2 ≤ 32 by omega) (zx_ones _ _) fun w2 hS => ?_
    refine .inl ⟨{ p with lb := a, lt := b }, rfl, fun j hj hne => by
      have hi := hj
      obtain rfl | rfl | rfl | rfl | rfl | rfl | rfl | rfl | rfl | rfl | rfl | rfl := lt12 hi <;> first | exact absurd rfl hne | exact ⟨rfl, rfl⟩ | rfl, { hw he with lb := ha, lt := hb }, he, hh, fun y hy _ hyh => ?_, ?_⟩
    · exact hu _ _ hy.lb hy.lt hyh
    · have e : (fb { p with lb := a, lt := b } 1).length = 8 := by simp [fb, enc_length]
      rw [e]
      exact hS.swap
  · (try simp only [o_chk, fa_39_2, Nat.zero_add])
    refine r_storeN (hS.pick 1) ag25 (xs := zx a b) rfl (show 3 + 2 ≤ 32 by omega) (zx_ones _ _) fun w2 hS => ?_
    exact .inr ⟨{ p with lb := a, lt := b }, fun y hy _ hyh => hno _ _ hy.lb hy.lt hyh, off', e', he', hS.swap⟩
theorem get5 (hw : err = 0 → WfP p) (h : St o w (RdrAt g B all off err :: PSt gp p R)) : CallV Tryz.prog Z 64 #[.pointer (some ⟨g, 0, none⟩), .pointer (some ⟨gp, 0, none⟩)] w fun r w' => Got 5 p g gp B all off err o R w' := by
  refine f64.calls ?_
  unfold f64.sh
  refine (getZxidC Z h).mono fun r w1 hq => ?_
  rcases hq with ⟨a, b, ha, hb, he, hh, hu, rfl, hS⟩ | ⟨a, b, hno, rfl, off', e', he', hS⟩
  · (try simp only [o_chk, fa_39_6, Nat.zero_add])
    refine r_storeN (hS.pick 1) ag27 (xs := zx a b) rfl (show 8 + 2 ≤ 32 by omega) (zx_ones _ _) fun w2 hS => ?_
    refine .inl ⟨{ p with ze := a, zn := b }, rfl, fun j hj hne => by
      have hi := hj
      obtain rfl | rfl | rfl | rfl | rfl | rfl | rfl | rfl | rfl | rfl | rfl | rfl := lt12 hi <;> first | exact absurd rfl hne | exact ⟨rfl, rfl⟩ | rfl, { hw he with ze := ha, zn := hb }, he, hh, fun y hy _ hyh => ?_, ?_⟩
    · exact hu _ _ hy.ze hy.zn hyh
    · have e : (fb { p with ze := a, zn := b } 5).length = 8 := by simp [fb, enc_length]
      rw [e]
      exact hS.swap
  · (try simp only [o_chk, fa_39_6, Nat.zero_add])
    refine r_storeN (hS.pick 1) ag27 (xs := zx a b) rfl (show 8 + 2 ≤ 32 by omega) (zx_ones _ _) fun w2 hS => ?_
    exact .inr ⟨{ p with ze := a, zn := b }, fun y hy _ hyh => hno _ _ hy.ze hy.zn hyh, off', e', he', hS.swap⟩
theorem get6 (hw : err = 0 → WfP p) (h : St o w (RdrAt g B all off err :: PSt gp p R)) : CallV Tryz.prog Z 68 #[.pointer (some ⟨g, 0, none⟩), .pointer (some ⟨gp, 0, none⟩)] w fun r w' => Got 6 p g gp B all off err o R w' := by
  refine f68.calls ?_
  unfold f68.sh
  refine (getZxidC Z h).mono fun r w1 hq => ?_
  rcases hq with ⟨a, b, ha, hb, he, hh, hu, rfl, hS⟩ | ⟨a, b, hno, rfl, off', e', he', hS⟩
  · (try simp only [o_chk, fa_39_7, Nat.zero_add])
    refine r_storeN (hS.pick 1) ag27 (xs := zx a b) rfl (show 10 + 2 ≤ 32 by omega) (zx_ones _ _) fun w2 hS => ?_
    refine .inl ⟨{ p with ve := a, vn := b }, rfl, fun j hj hne => by
      have hi := hj
      obtain rfl | rfl | rfl | rfl | rfl | rfl | rfl | rfl | rfl | rfl | rfl | rfl := lt12 hi <;> first | exact absurd rfl hne | exact ⟨rfl, rfl⟩ | rfl, { hw he with ve := ha, vn := hb }, he, hh, fun y hy _ hyh => ?_, ?_⟩
    · exact hu _ _ hy.ve hy.vn hyh
    · have e : (fb { p with ve := a, vn := b } 6).length = 8 := by simp [fb, enc_length]
      rw [e]
      exact hS.swap
  · (try simp only [o_chk, fa_39_7, Nat.zero_add])
    refine r_storeN (hS.pick 1) ag27 (xs := zx a b) rfl (show 10 + 2 ≤ 32 by omega) (zx_ones _ _) fun w2 hS => ?_
    exact .inr ⟨{ p with ve := a, vn := b }, fun y hy _ hyh => hno _ _ hy.ve hy.vn hyh, off', e', he', hS.swap⟩
theorem get2 (hw : err = 0 → WfP p) (h : St o w (RdrAt g B all off err :: PSt gp p R)) : CallV Tryz.prog Z 119 #[.pointer (some ⟨g, 0, none⟩), .pointer (some ⟨gp, 0, none⟩)] w fun r w' => Got 2 p g gp B all off err o R w' := by
  refine f119.calls ?_
  unfold f119.sh
  refine (gInt64 Z h).mono fun r w1 hq => ?_
  rcases hq with ⟨a, ha, he, hh, hu, rfl, hS⟩ | ⟨rfl, hno, off', e', ⟨he', _⟩, hS⟩
  · (try simp only [o_chk, fa_39_3, Nat.zero_add])
    refine r_store (hS.pick 1) one2 (show 5 < 32 by omega) rfl fun w2 hS => ?_
    refine .inl ⟨{ p with pl := a }, rfl, fun j hj hne => by
      have hi := hj
      obtain rfl | rfl | rfl | rfl | rfl | rfl | rfl | rfl | rfl | rfl | rfl | rfl := lt12 hi <;> first | exact absurd rfl hne | exact ⟨rfl, rfl⟩ | rfl, { hw he with pl := ha }, he, hh, fun y hy _ hyh => hu _ hy.pl hyh, hS.swap⟩
  · (try simp only [o_chk, fa_39_3, Nat.zero_add])
    refine r_store (hS.pick 1) one2 (show 5 < 32 by omega) rfl fun w2 hS => ?_
    exact .inr ⟨{ p with pl := 0 }, fun y hy _ hyh => hno _ hy.pl hyh, off', e', he', hS.swap⟩
theorem get3 (hw : err = 0 → WfP p) (h : St o w (RdrAt g B all off err :: PSt gp p R)) : CallV Tryz.prog Z 57 #[.pointer (some ⟨g, 0, none⟩), .pointer (some ⟨gp, 0, none⟩)] w fun r w' => Got 3 p g gp B all off err o R w' := by
  refine f57.calls ?_
  unfold f57.sh
  refine (gUint32 Z h).mono fun r w1 hq => ?_
  rcases hq with ⟨a, ha, he, hh, hu, rfl, hS⟩ | ⟨rfl, hno, off', e', ⟨he', _⟩, hS⟩
  · (try simp only [o_chk, fa_39_4, Nat.zero_add])
    refine r_store (hS.pick 1) one23 (show 6 < 32 by omega) rfl fun w2 hS => ?_
    refine .inl ⟨{ p with ep := a }, rfl, fun j hj hne => by
      have hi := hj
      obtain rfl | rfl | rfl | rfl | rfl | rfl | rfl | rfl | rfl | rfl | rfl | rfl := lt12 hi <;> first | exact absurd rfl hne | exact ⟨rfl, rfl⟩ | rfl, { hw he with ep := ha }, he, hh, fun y hy _ hyh => hu _ hy.ep hyh, hS.swap⟩
  · (try simp only [o_chk, fa_39_4, Nat.zero_add])
    refine r_store (hS.pick 1) one23 (show 6 < 32 by omega) rfl fun w2 hS => ?_
    exact .inr ⟨{ p with ep := 0 }, fun y hy _ hyh => hno _ hy.ep hyh, off', e', he', hS.swap⟩
theorem get4 (hw : err = 0 → WfP p) (h : St o w (RdrAt g B all off err :: PSt gp p R)) : CallV Tryz.prog Z 60 #[.pointer (some ⟨g, 0, none⟩), .pointer (some ⟨gp, 0, none⟩)] w fun r w' => Got 4 p g gp B all off err o R w' := by
  refine f60.calls ?_
  unfold f60.sh
  refine (gUint32 Z h).mono fun r w1 hq => ?_
  rcases hq with ⟨a, ha, he, hh, hu, rfl, hS⟩ | ⟨rfl, hno, off', e', ⟨he', _⟩, hS⟩
  · (try simp only [o_chk, fa_39_5, Nat.zero_add])
    refine r_store (hS.pick 1) one23 (show 7 < 32 by omega) rfl fun w2 hS => ?_
    refine .inl ⟨{ p with cu := a }, rfl, fun j hj hne => by
      have hi := hj
      obtain rfl | rfl | rfl | rfl | rfl | rfl | rfl | rfl | rfl | rfl | rfl | rfl := lt12 hi <;> first | exact absurd rfl hne | exact ⟨rfl, rfl⟩ | rfl, { hw he with cu := ha }, he, hh, fun y hy _ hyh => hu _ hy.cu hyh, hS.swap⟩
  · (try simp only [o_chk, fa_39_5, Nat.zero_add])
    refine r_store (hS.pick 1) one23 (show 7 < 32 by omega) rfl fun w2 hS => ?_
    exact .inr ⟨{ p with cu := 0 }, fun y hy _ hyh => hno _ hy.cu hyh, off', e', he', hS.swap⟩
theorem get7 (hw : err = 0 → WfP p) (h : St o w (RdrAt g B all off err :: PSt gp p R)) : CallV Tryz.prog Z 73 #[.pointer (some ⟨g, 0, none⟩), .pointer (some ⟨gp, 0, none⟩)] w fun r w' => Got 7 p g gp B all off err o R w' := by
  refine f73.calls ?_
  unfold f73.sh
  refine (gBool Z h).mono fun r w1 hq => ?_
  rcases hq with ⟨a, ha, he, hh, hu, rfl, hS⟩ | ⟨rfl, hno, off', e', ⟨he', _⟩, hS⟩
  · (try simp only [o_chk, fa_39_8, Nat.zero_add])
    refine r_store (hS.pick 1) one4 (show 12 < 32 by omega) rfl fun w2 hS => ?_
    refine .inl ⟨{ p with co := a }, rfl, fun j hj hne => by
      have hi := hj
      obtain rfl | rfl | rfl | rfl | rfl | rfl | rfl | rfl | rfl | rfl | rfl | rfl := lt12 hi <;> first | exact absurd rfl hne | exact ⟨rfl, rfl⟩ | rfl, { hw he with }, he, hh, fun y hy _ hyh => hu _ trivial hyh, hS.swap⟩
  · (try simp only [o_chk, fa_39_8, Nat.zero_add])
    refine r_store (hS.pick 1) one4 (show 12 < 32 by omega) rfl fun w2 hS => ?_
    exact .inr ⟨{ p with co := false }, fun y hy _ hyh => hno _ trivial hyh, off', e', he', hS.swap⟩
theorem get8 (hw : err = 0 → WfP p) (h : St o w (RdrAt g B all off err :: PSt gp p R)) : CallV Tryz.prog Z 76 #[.pointer (some ⟨g, 0, none⟩), .pointer (some ⟨gp, 0, none⟩)] w fun r w' => Got 8 p g gp B all off err o R w' := by
  refine f76.calls ?_
  unfold f76.sh
  refine (gBool Z h).mono fun r w1 hq => ?_
  rcases hq with ⟨a, ha, he, hh, hu, rfl, hS⟩ | ⟨rfl, hno, off', e', ⟨he', _⟩, hS⟩
  · (try simp only [o_chk, fa_39_9, Nat.zero_add])
    refine r_store (hS.pick 1) one4 (show 13 < 32 by omega) rfl fun w2 hS => ?_
    refine .inl ⟨{ p with fi := a }, rfl, fun j hj hne => by
      have hi := hj
      obtain rfl | rfl | rfl | rfl | rfl | rfl | rfl | rfl | rfl | rfl | rfl | rfl := lt12 hi <;> first | exact absurd rfl hne | exact ⟨rfl, rfl⟩ | rfl, { hw he with }, he, hh, fun y hy _ hyh => hu _ trivial hyh, hS.swap⟩
  · (try simp only [o_chk, fa_39_9, Nat.zero_add])
    refine r_store (hS.pick 1) one4 (show 13 < 32 by omega) rfl fun w2 hS => ?_
    exact .inr ⟨{ p with fi := false }, fun y hy _ hyh => hno _ trivial hyh, off', e', he', hS.swap⟩
theorem get11 (hw : err = 0 → WfP p) (h : St o w (RdrAt g B all off err :: PSt gp p R)) : CallV Tryz.prog Z 87 #[.pointer (some ⟨g, 0, none⟩), .pointer (some ⟨gp, 0, none⟩)] w fun r w' => Got 11 p g gp B all off err o R w' := by
  refine f87.calls ?_
  unfold f87.sh
  refine (gInt64 Z h).mono fun r w1 hq => ?_
  rcases hq with ⟨a, ha, he, hh, hu, rfl, hS⟩ | ⟨rfl, hno, off', e', ⟨he', _⟩, hS⟩
  · (try simp only [o_chk, fa_39_12, Nat.zero_add])
    refine r_store (hS.pick 1) one2 (show 31 < 32 by omega) rfl fun w2 hS => ?_
    refine .inl ⟨{ p with se := a }, rfl, fun j hj hne => by
      have hi := hj
      obtain rfl | rfl | rfl | rfl | rfl | rfl | rfl | rfl | rfl | rfl | rfl | rfl := lt12 hi <;> first | exact absurd rfl hne | exact ⟨rfl, rfl⟩ | rfl, { hw he with se := ha }, he, hh, fun y hy _ hyh => hu _ hy.se hyh, hS.swap⟩
  · (try simp only [o_chk, fa_39_12, Nat.zero_add])
    refine r_store (hS.pick 1) one2 (show 31 < 32 by omega) rfl fun w2 hS => ?_
    exact .inr ⟨{ p with se := 0 }, fun y hy _ hyh => hno _ hy.se hyh, off', e', he', hS.swap⟩
theorem get10 (hall : all.length ≤ 140737488355328) (hw : err = 0 → WfP p) (h : St o w (RdrAt g B all off err :: PSt gp p R)) : CallV Tryz.prog Z 82 #[.pointer (some ⟨g, 0, none⟩), .pointer (some ⟨gp, 0, none⟩)] w fun r w' => Got 10 p g gp B all off err o R w' := by
  refine f82.calls ?_
  unfold f82.sh
  refine (gBuffer Z 4096 hall h).mono fun r w1 hq => ?_
  have hok : ∀ y : Pk, rt y 10 = true → okL 4096 y.b := fun y hr => by
    have h : (decide (0 < (y.b.length : Int)) && decide ((y.b.length : Int) ≤ 4096)) = true := hr
    have h2 := of_decide_eq_true (Bool.and_eq_true_iff.1 h).2
    exact ⟨h2, by omega⟩
  rcases hq with ⟨k, hk, he, hh, hu, hS⟩ | ⟨hno, off', e', ⟨he', _⟩, hS⟩
  · have h1 := St.own_one hS
    (try simp only [o_chk, fa_39_11, Nat.zero_add])
    refine r_store (hS.pick 2) one30 (show 30 < 32 by omega) h1 fun w2 hS => ?_
    have hS : St o w2 (blk gp 39 ({ p with bv := r, b := k } : Pk).cells :: own 5 1 r k.length (cb k) :: RdrAt g B all (off + (encL k).length) 0 :: OwQ p.t.q :: own 5 1 p.bv p.b.length (cb p.b) :: R) := hS
    refine .inl ⟨{ p with bv := r, b := k }, rfl, fun j hj hne => by
      have hi := hj
      obtain rfl | rfl | rfl | rfl | rfl | rfl | rfl | rfl | rfl | rfl | rfl | rfl := lt12 hi <;> first | exact absurd rfl hne | exact ⟨rfl, rfl⟩ | rfl, { hw he with b := by have := hk.2; show k.length ≤ _; omega }, he, hh, fun y hy hr hyh => hu _ (hok y hr) hyh, ?_⟩
    unfold PSt
    (refine Sh.St.sub ?_ (hS); repeat (first | with_reducible exact sub_refl | with_reducible exact sub_nil | with_reducible refine sub_p0 ?_ | with_reducible refine sub_p1 ?_ | with_reducible refine sub_p2 ?_ | with_reducible refine sub_p3 ?_ | with_reducible refine sub_p4 ?_ | with_reducible refine sub_p5 ?_ | with_reducible refine sub_p6 ?_ | with_reducible refine sub_p7 ?_ | with_reducible refine sub_p8 ?_ | with_reducible refine sub_p9 ?_ | with_reducible refine sub_p10 ?_ | with_reducible refine sub_p11 ?_ | with_reducible refine sub_p12 ?_ | with_reducible refine sub_p13 ?_ | with_reducible refine sub_p14 ?_ | with_reducible refine sub_p15 ?_ | exact sub_refl | refine sub_p0 ?_ | refine sub_p1 ?_ | refine sub_p2 ?_ | refine sub_p3 ?_ | refine sub_p4 ?_ | refine sub_p5 ?_ | refine sub_p6 ?_ | refine sub_p7 ?_ | refine sub_p8 ?_ | refine sub_p9 ?_ | refine sub_p10 ?_ | refine sub_p11 ?_ | refine sub_p12 ?_ | refine sub_p13 ?_ | refine sub_p14 ?_ | refine sub_p15 ?_ | refine sub_drop ?_))
  · have h1 := St.own_one hS
    (try simp only [o_chk, fa_39_11, Nat.zero_add])
    refine r_store (hS.pick 2) one30 (show 30 < 32 by omega) h1 fun w2 hS => ?_
    have hS : St o w2 (blk gp 39 ({ p with bv := r, b := [] } : Pk).cells :: own 5 1 r 0 (cb []) :: RdrAt g B all off' e' :: OwQ p.t.q :: own 5 1 p.bv p.b.length (cb p.b) :: R) := hS
    refine .inr ⟨{ p with bv := r, b := [] }, fun y hy hr hyh => hno _ (hok y hr) hyh, off', e', he', ?_⟩
    unfold PSt
    (refine Sh.St.sub ?_ (hS); repeat (first | with_reducible exact sub_refl | with_reducible exact sub_nil | with_reducible refine sub_p0 ?_ | with_reducible refine sub_p1 ?_ | with_reducible refine sub_p2 ?_ | with_reducible refine sub_p3 ?_ | with_reducible refine sub_p4 ?_ | with_reducible refine sub_p5 ?_ | with_reducible refine sub_p6 ?_ | with_reducible refine sub_p7 ?_ | with_reducible refine sub_p8 ?_ | with_reducible refine sub_p9 ?_ | with_reducible refine sub_p10 ?_ | with_reducible refine sub_p11 ?_ | with_reducible refine sub_p12 ?_ | with_reducible refine sub_p13 ?_ | with_reducible refine sub_p14 ?_ | with_reducible refine sub_p15 ?_ | exact sub_refl | refine sub_p0 ?_ | refine sub_p1 ?_ | refine sub_p2 ?_ | refine sub_p3 ?_ | refine sub_p4 ?_ | refine sub_p5 ?_ | refine sub_p6 ?_ | refine sub_p7 ?_ | refine sub_p8 ?_ | refine sub_p9 ?_ | refine sub_p10 ?_ | refine sub_p11 ?_ | refine sub_p12 ?_ | refine sub_p13 ?_ | refine sub_p14 ?_ | refine sub_p15 ?_ | refine sub_drop ?_))
theorem txB_pos (t : Tx) : 0 < (txB t).length := by
  rw [txB_pre, List.length_append]
  have : hpre t.hd 5 = hpre t.hd 4 ++ enc 8 t.hd.nu := rfl
  rw [this, List.length_append, enc_length]; omega
theorem get9 (hN : Names o) (ho : old o ∈ R) (hall : all.length ≤ 140737488355328) (hz : ∀ w' p', (∀ y, WfP y → rt y 9 = true → ¬ (err = 0 ∧ Has all off (fb y 9))) → St o w' (PSt gp p' R) → Z [{ v := spoiltV, recovered := false }] w') (hw : err = 0 → WfP p) (h : St o w (RdrAt g B all off err :: PSt gp p R)) : CallV Tryz.prog Z 78 #[.pointer (some ⟨g, 0, none⟩), .pointer (some ⟨gp, 0, none⟩)] w fun r w' => Got 9 p g gp B all off err o R w' := by
  refine f78.calls ?_
  unfold f78.sh
  refine (gBuffer Z 4096 hall h).mono fun r w1 hq => ?_
  have hct : ∀ y : Pk, rt y 9 = true → chkT y.t = true := fun y hr => (Bool.and_eq_true_iff.1 (show (chkT y.t && (if y.kd = 13 then ((y.t.e == 0) && (y.t.n == 0)) && decide (0 < y.t.nu) else decide (cmpZ y.ve y.vn y.t.e y.t.n < 0))) = true from hr)).1
  have hok : ∀ y : Pk, rt y 9 = true → okL 4096 (txB y.t) := fun y hr => by
    have := txB_len (hct y hr)
    exact ⟨by omega, by omega⟩
  have panics : ∀ (w : World) (k : Value → World → Prop), (∀ y, WfP y → rt y 9 = true → ¬ (err = 0 ∧ Has all off (fb y 9))) → St o w (PSt gp p R) →
      run1 Tryz.prog Z (Instr.build 100 #[]) w fun t11 w => run1 Tryz.prog Z (Instr.makeInterface 100 t11) w fun t12 w => run1 Tryz.prog Z (Instr.panic t12) w k := fun w k hno hS => by
    refine r_build (cells := #[]) (by kernel_rfl) ?_
    refine r1 (run_makeInterface _ _ _ (by kernel_rfl)) ?_
    exact r_panic (run_panic_iface _ _ _) (hz w p hno hS)
  have h40 : ((40 : Int) != 0) = true := rfl
  have h00 : ((0 : Int) != 0) = false := rfl
  rcases hq with ⟨k, hk, he, hh, hu, hS⟩ | ⟨hno, off', e', ⟨he', _⟩, hS⟩
  · refine (readC Z hN (by simp [PSt, ho]) (Ent.own (e := 5) m0) (by have := hk.2; omega) hS).mono fun r2 w2 hq => ?_
    rcases hq with ⟨t, h1, h2, h3, h4, rfl, hS⟩ | ⟨hnone, rfl, hS⟩
    · subst h3
      have hto : ones t.cells := txC_ones (OwQ.rd _ hS).ones
      (try simp only [o_chk, fa_39_10, Nat.zero_add, o_ext2_1, o_neq, bne_self_eq_false, condF, o_ext2_0])
      refine r_alloc hS ze37 fun g5 w3 hS => ?_
      refine r_storeN hS ag37 (xs := t.cells) (Tx.cells_len _) (show 0 + 16 ≤ 16 from Nat.le_refl _) hto fun w4 hS => ?_
      rw [setL_all _ _ (by rfl)] at hS
      intro j hj
      skip
      refine hj _ fun _ => ?_
      refine r_loadN ag37 (xs := t.cells) (Tx.cells_len _) (hS.cells_at m0 0 (whole_at _)) ?_
      skip
      have hS : St o w4 (blk g5 37 t.cells :: OwQ t.q :: own 5 1 r (txB t).length (cb (txB t)) :: RdrAt g B all (off + (encL (txB t)).length) 0 :: blk gp 39 p.cells :: OwQ p.t.q :: own 5 1 p.bv p.b.length (cb p.b) :: R) := hS
      refine r_storeN (hS.pick 4) ag37 (xs := t.cells) (Tx.cells_len _) (show 14 + 16 ≤ 32 by omega) hto fun w5 hS => ?_
      have e14 : setL p.cells 14 t.cells = ({ p with t := t } : Pk).cells := setL_mid p.hd p.t.cells t.cells _ rfl
      rw [e14] at hS
      refine .inl ⟨{ p with t := t }, rfl, fun j hj hne => by
      have hi := hj
      obtain rfl | rfl | rfl | rfl | rfl | rfl | rfl | rfl | rfl | rfl | rfl | rfl := lt12 hi <;> first | exact absurd rfl hne | exact ⟨rfl, rfl⟩ | rfl, { hw he with h := h1.1, q := okR_wf h1.2 }, he, hh, fun y hy hr hyh => ?_, ?_⟩
      · have e := hu _ (hok y hr) hyh
        have hyt := okT_chk (hct y hr) hy.h hy.q
        obtain ⟨a, b⟩ := h4 y.t hyt ⟨[], by rw [List.append_nil]; exact e.symm⟩
        exact ⟨a, st_of_key hyt.2 h1.2 b⟩
      · unfold PSt
        show St o w5 (RdrAt g B all (off + (encL (txB t)).length) 0 :: _)
        (refine Sh.St.sub ?_ (hS); repeat (first | with_reducible exact sub_refl | with_reducible exact sub_nil | with_reducible refine sub_p0 ?_ | with_reducible refine sub_p1 ?_ | with_reducible refine sub_p2 ?_ | with_reducible refine sub_p3 ?_ | with_reducible refine sub_p4 ?_ | with_reducible refine sub_p5 ?_ | with_reducible refine sub_p6 ?_ | with_reducible refine sub_p7 ?_ | with_reducible refine sub_p8 ?_ | with_reducible refine sub_p9 ?_ | with_reducible refine sub_p10 ?_ | with_reducible refine sub_p11 ?_ | with_reducible refine sub_p12 ?_ | with_reducible refine sub_p13 ?_ | with_reducible refine sub_p14 ?_ | with_reducible refine sub_p15 ?_ | exact sub_refl | refine sub_p0 ?_ | refine sub_p1 ?_ | refine sub_p2 ?_ | refine sub_p3 ?_ | refine sub_p4 ?_ | refine sub_p5 ?_ | refine sub_p6 ?_ | refine sub_p7 ?_ | refine sub_p8 ?_ | refine sub_p9 ?_ | refine sub_p10 ?_ | refine sub_p11 ?_ | refine sub_p12 ?_ | refine sub_p13 ?_ | refine sub_p14 ?_ | refine sub_p15 ?_ | refine sub_drop ?_))
    · (try simp only [o_chk, fa_39_10, Nat.zero_add, o_ext2_1, o_neq, Int.reduceBNe, condT, o_ext2_0])
      refine r_alloc hS ze37 fun g5 w3 hS => ?_
      have hzo : ones zTx := txC_ones (t := tz) (RdQ.ones (qz_rd w3))
      refine r_storeN hS ag37 (xs := zTx) rfl (show 0 + 16 ≤ 16 from Nat.le_refl _) hzo fun w4 hS => ?_
      intro j hj
      skip
      refine panics _ _ (fun y hy hr ⟨_, hyh⟩ => ?_) (by unfold PSt; unfold PSt at hS; (refine Sh.St.sub ?_ (hS); repeat (first | with_reducible exact sub_refl | with_reducible exact sub_nil | with_reducible refine sub_p0 ?_ | with_reducible refine sub_p1 ?_ | with_reducible refine sub_p2 ?_ | with_reducible refine sub_p3 ?_ | with_reducible refine sub_p4 ?_ | with_reducible refine sub_p5 ?_ | with_reducible refine sub_p6 ?_ | with_reducible refine sub_p7 ?_ | with_reducible refine sub_p8 ?_ | with_reducible refine sub_p9 ?_ | with_reducible refine sub_p10 ?_ | with_reducible refine sub_p11 ?_ | with_reducible refine sub_p12 ?_ | with_reducible refine sub_p13 ?_ | with_reducible refine sub_p14 ?_ | with_reducible refine sub_p15 ?_ | exact sub_refl | refine sub_p0 ?_ | refine sub_p1 ?_ | refine sub_p2 ?_ | refine sub_p3 ?_ | refine sub_p4 ?_ | refine sub_p5 ?_ | refine sub_p6 ?_ | refine sub_p7 ?_ | refine sub_p8 ?_ | refine sub_p9 ?_ | refine sub_p10 ?_ | refine sub_p11 ?_ | refine sub_p12 ?_ | refine sub_p13 ?_ | refine sub_p14 ?_ | refine sub_p15 ?_ | refine sub_drop ?_)))
      have e := hu _ (hok y hr) hyh
      exact hnone y.t (okT_chk (hct y hr) hy.h hy.q) (hct y hr) e.symm
  · refine (readC Z hN (by simp [PSt, ho]) (Ent.own (e := 5) (xs := cb []) m0) (by simp) hS).mono fun r2 w2 hq => ?_
    rcases hq with ⟨t, h1, h2, h3, h4, rfl, hS⟩ | ⟨hnone, rfl, hS⟩
    · have := txB_pos t
      rw [← h3] at this
      simp at this
    · (try simp only [o_chk, fa_39_10, Nat.zero_add, o_ext2_1, o_neq, Int.reduceBNe, condT, o_ext2_0])
      refine r_alloc hS ze37 fun g5 w3 hS => ?_
      have hzo : ones zTx := txC_ones (t := tz) (RdQ.ones (qz_rd w3))
      refine r_storeN hS ag37 (xs := zTx) rfl (show 0 + 16 ≤ 16 from Nat.le_refl _) hzo fun w4 hS => ?_
      intro j hj
      skip
      exact panics _ _ (fun y hy hr hyh => hno _ (hok y hr) hyh) (by unfold PSt; unfold PSt at hS; (refine Sh.St.sub ?_ (hS); repeat (first | with_reducible exact sub_refl | with_reducible exact sub_nil | with_reducible refine sub_p0 ?_ | with_reducible refine sub_p1 ?_ | with_reducible refine sub_p2 ?_ | with_reducible refine sub_p3 ?_ | with_reducible refine sub_p4 ?_ | with_reducible refine sub_p5 ?_ | with_reducible refine sub_p6 ?_ | with_reducible refine sub_p7 ?_ | with_reducible refine sub_p8 ?_ | with_reducible refine sub_p9 ?_ | with_reducible refine sub_p10 ?_ | with_reducible refine sub_p11 ?_ | with_reducible refine sub_p12 ?_ | with_reducible refine sub_p13 ?_ | with_reducible refine sub_p14 ?_ | with_reducible refine sub_p15 ?_ | exact sub_refl | refine sub_p0 ?_ | refine sub_p1 ?_ | refine sub_p2 ?_ | refine sub_p3 ?_ | refine sub_p4 ?_ | refine sub_p5 ?_ | refine sub_p6 ?_ | refine sub_p7 ?_ | refine sub_p8 ?_ | refine sub_p9 ?_ | refine sub_p10 ?_ | refine sub_p11 ?_ | refine sub_p12 ?_ | refine sub_p13 ?_ | refine sub_p14 ?_ | refine sub_p15 ?_ | refine sub_drop ?_)))
end
end Go.Proofs.YtfafkgbipjhcaaaGreatDoor
