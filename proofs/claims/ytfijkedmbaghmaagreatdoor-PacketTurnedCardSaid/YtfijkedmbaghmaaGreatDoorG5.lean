/- Packets with the same bytes are the same, but for addresses. Printed by wip/sh/mkG5.py. -/
import Derived.Test.YtfijkedmbaghmaaGreatDoorG4
set_option linter.unusedVariables false
set_option linter.unusedSimpArgs false
namespace Go.Proofs.YtfijkedmbaghmaaGreatDoor
open Go.Sh
def sameF (y p : Pk) : Nat → Prop
  | 0 => y.cb = p.cb ∧ y.ct = p.ct
  | 1 => y.lb = p.lb ∧ y.lt = p.lt
  | 2 => y.pl = p.pl
  | 3 => y.ep = p.ep
  | 4 => y.cu = p.cu
  | 5 => y.ze = p.ze ∧ y.zn = p.zn
  | 6 => y.ve = p.ve ∧ y.vn = p.vn
  | 7 => y.co = p.co
  | 8 => y.fi = p.fi
  | 9 => y.t.hd = p.t.hd ∧ y.t.q.st = p.t.q.st
  | 10 => y.b = p.b
  | _ => y.se = p.se
def eqF (y p : Pk) : Nat → Prop
  | 0 => y.cb = p.cb ∧ y.ct = p.ct
  | 1 => y.lb = p.lb ∧ y.lt = p.lt
  | 2 => y.pl = p.pl
  | 3 => y.ep = p.ep
  | 4 => y.cu = p.cu
  | 5 => y.ze = p.ze ∧ y.zn = p.zn
  | 6 => y.ve = p.ve ∧ y.vn = p.vn
  | 7 => y.co = p.co
  | 8 => y.fi = p.fi
  | 9 => y.t = p.t
  | 10 => y.b = p.b ∧ y.bv = p.bv
  | _ => y.se = p.se
theorem sameF_of {y p : Pk} {i : Nat} (hi : i < 12) (h : eqF y p i) : sameF y p i := by
  obtain rfl | rfl | rfl | rfl | rfl | rfl | rfl | rfl | rfl | rfl | rfl | rfl := lt12 hi
  case inr.inr.inr.inr.inr.inr.inr.inr.inr.inl => exact ⟨by rw [show y.t = p.t from h], by rw [show y.t = p.t from h]⟩
  case inr.inr.inr.inr.inr.inr.inr.inr.inr.inr.inl => exact And.left h
  all_goals exact h
theorem sameF_fb {y p : Pk} {i : Nat} (hi : i < 12) (h : sameF y p i) : fb y i = fb p i := by
  obtain rfl | rfl | rfl | rfl | rfl | rfl | rfl | rfl | rfl | rfl | rfl | rfl := lt12 hi
  · obtain ⟨h1, h2⟩ := h; show _ ++ _ = _ ++ _; rw [h1, h2]
  · obtain ⟨h1, h2⟩ := h; show _ ++ _ = _ ++ _; rw [h1, h2]
  · have h : y.pl = p.pl := h; show enc _ y.pl = enc _ p.pl; rw [h]
  · have h : y.ep = p.ep := h; show enc _ y.ep = enc _ p.ep; rw [h]
  · have h : y.cu = p.cu := h; show enc _ y.cu = enc _ p.cu; rw [h]
  · obtain ⟨h1, h2⟩ := h; show _ ++ _ = _ ++ _; rw [h1, h2]
  · obtain ⟨h1, h2⟩ := h; show _ ++ _ = _ ++ _; rw [h1, h2]
  · have h : y.co = p.co := h; show encB y.co = encB p.co; rw [h]
  · have h : y.fi = p.fi := h; show encB y.fi = encB p.fi; rw [h]
  · obtain ⟨h1, h2⟩ := h; show encL _ = encL _; rw [txB_st h1 h2]
  · have h : y.b = p.b := h; show encL _ = encL _; rw [h]
  · have h : y.se = p.se := h; show enc _ y.se = enc _ p.se; rw [h]
theorem sameF_eq {y p p' : Pk} {i : Nat} (hi : i < 12) (h : eqF p' p i) (hs : sameF y p i) : sameF y p' i := by
  obtain rfl | rfl | rfl | rfl | rfl | rfl | rfl | rfl | rfl | rfl | rfl | rfl := lt12 hi
  · exact ⟨hs.1.trans h.1.symm, hs.2.trans h.2.symm⟩
  · exact ⟨hs.1.trans h.1.symm, hs.2.trans h.2.symm⟩
  · exact Eq.trans hs (Eq.symm h)
  · exact Eq.trans hs (Eq.symm h)
  · exact Eq.trans hs (Eq.symm h)
  · exact ⟨hs.1.trans h.1.symm, hs.2.trans h.2.symm⟩
  · exact ⟨hs.1.trans h.1.symm, hs.2.trans h.2.symm⟩
  · exact Eq.trans hs (Eq.symm h)
  · exact Eq.trans hs (Eq.symm h)
  · have h : p'.t = p.t := h; exact ⟨by rw [h]; exact hs.1, by rw [h]; exact hs.2⟩
  · exact Eq.trans hs h.1.symm
  · exact Eq.trans hs (Eq.symm h)
theorem zr_eq {p p' : Pk} {i : Nat} (hi : i < 12) (h : eqF p' p i) (hs : zr p i = true) : zr p' i = true := by
  obtain rfl | rfl | rfl | rfl | rfl | rfl | rfl | rfl | rfl | rfl | rfl | rfl := lt12 hi
  · have h1 := h.1; have h2 := h.2; have hs : ((p.cb == 0) && (p.ct == 0)) = true := hs; show ((p'.cb == 0) && (p'.ct == 0)) = true; rw [h1, h2]; exact hs
  · have h1 := h.1; have h2 := h.2; have hs : ((p.lb == 0) && (p.lt == 0)) = true := hs; show ((p'.lb == 0) && (p'.lt == 0)) = true; rw [h1, h2]; exact hs
  · have h : p'.pl = p.pl := h; have hs : (p.pl == 0) = true := hs; show (p'.pl == 0) = true; rw [h]; exact hs
  · have h : p'.ep = p.ep := h; have hs : (p.ep == 0) = true := hs; show (p'.ep == 0) = true; rw [h]; exact hs
  · have h : p'.cu = p.cu := h; have hs : (p.cu == 0) = true := hs; show (p'.cu == 0) = true; rw [h]; exact hs
  · have h1 := h.1; have h2 := h.2; have hs : ((p.ze == 0) && (p.zn == 0)) = true := hs; show ((p'.ze == 0) && (p'.zn == 0)) = true; rw [h1, h2]; exact hs
  · have h1 := h.1; have h2 := h.2; have hs : ((p.ve == 0) && (p.vn == 0)) = true := hs; show ((p'.ve == 0) && (p'.vn == 0)) = true; rw [h1, h2]; exact hs
  · have h : p'.co = p.co := h; have hs : (!p.co) = true := hs; show (!p'.co) = true; rw [h]; exact hs
  · have h : p'.fi = p.fi := h; have hs : (!p.fi) = true := hs; show (!p'.fi) = true; rw [h]; exact hs
  · have h : p'.t = p.t := h; unfold zr at hs ⊢; rw [h]; exact hs
  · have h1 : p'.b = p.b := h.1; unfold zr at hs ⊢; rw [h1]; exact hs
  · have h : p'.se = p.se := h; have hs : (p.se == 0) = true := hs; show (p'.se == 0) = true; rw [h]; exact hs
theorem has6 : ∀ K : Fin 15, hasF K.1 9 = true → K.1 ≠ 13 → hasF K.1 6 = true := by decide +kernel
theorem okP_same {y p : Pk} (hy : okP y = true) (hk : y.kd = p.kd) (hz : ∀ i, i < 12 → hasF p.kd.toNat i = false → zr p i = true) (hs : ∀ i, i < 12 → hasF p.kd.toNat i = true → sameF y p i) : okP p = true := by
  obtain ⟨h1, h2, h3⟩ := okP_iff.1 hy
  rw [hk] at h1 h3
  refine okP_iff.2 ⟨h1, (bareB_iff _ _).2 fun i hi => ?_, fun i hi hh => ?_⟩
  · cases hh : hasF p.kd.toNat i with
    | true => rfl
    | false => rw [hz i hi hh]; rfl
  · have hr := h3 i hi hh
    have h := hs i hi hh
    have hK := isKd_le h1
    obtain rfl | rfl | rfl | rfl | rfl | rfl | rfl | rfl | rfl | rfl | rfl | rfl := lt12 hi
    · have h1 := h.1; have h2 := h.2; have hr : cnOk y.cb y.ct = true := hr; show cnOk p.cb p.ct = true; rw [← h1, ← h2]; exact hr
    · have h1 := h.1; have h2 := h.2; have hr : cnOk y.lb y.lt = true := hr; show cnOk p.lb p.lt = true; rw [← h1, ← h2]; exact hr
    · have h : y.pl = p.pl := h; have hr : decide (0 ≤ y.pl) = true := hr; show decide (0 ≤ p.pl) = true; rw [← h]; exact hr
    · have h : y.ep = p.ep := h; unfold rt at hr ⊢; rw [← h, ← hk]; exact hr
    · have h : y.cu = p.cu := h; unfold rt at hr ⊢; rw [← h]; exact hr
    · have h1 : y.ze = p.ze := h.1; have h2 : y.zn = p.zn := h.2; unfold rt at hr ⊢; rw [← h1, ← h2, ← hk]; exact hr
    · have h1 : y.ve = p.ve := h.1; have h2 : y.vn = p.vn := h.2; unfold rt at hr ⊢; rw [← h1, ← h2]; exact hr
    · rfl
    · rfl
    · have h1 : y.t.hd = p.t.hd := h.1
      have h2 : y.t.q.st = p.t.q.st := h.2
      have e1 : y.t.e = p.t.e := congrArg Hd.e h1
      have e2 : y.t.n = p.t.n := congrArg Hd.n h1
      have e3 : y.t.nu = p.t.nu := congrArg Hd.nu h1
      have hc := chkT_st h1 h2
      unfold rt at hr ⊢
      by_cases h13 : p.kd = 13
      · rw [if_pos (hk.trans h13), hc, e1, e2, e3] at hr
        rw [if_pos h13]
        exact hr
      · have h6 := has6 ⟨p.kd.toNat, by omega⟩ hh (fun e => h13 (by have e : p.kd.toNat = 13 := e; omega))
        have hv := hs 6 (by omega) h6
        have v1 : y.ve = p.ve := hv.1
        have v2 : y.vn = p.vn := hv.2
        rw [if_neg (fun e => h13 (hk.symm.trans e)), hc, e1, e2, v1, v2] at hr
        rw [if_neg h13]
        exact hr
    · have h : y.b = p.b := h; unfold rt at hr ⊢; rw [← h]; exact hr
    · have h : y.se = p.se := h; unfold rt at hr ⊢; rw [← h]; exact hr
theorem fpre_same {y p : Pk} (hk : y.kd = p.kd) : ∀ i, i ≤ 12 → (∀ j, j < i → hasF p.kd.toNat j = true → sameF y p j) → fpre y.kd.toNat y i = fpre p.kd.toNat p i
  | 0, _, _ => by rw [fpre, fpre, hk]
  | i + 1, hi, hs => by
    rw [fpre, fpre, fpre_same hk i (by omega) fun j hj => hs j (by omega), hk]
    cases hh : hasF p.kd.toNat i with
    | true => rw [if_pos rfl, if_pos rfl, sameF_fb (by omega) (hs i (by omega) hh)]
    | false => rfl
theorem fpre_eq {K : Nat} {p p' : Pk} {i : Nat} (hk : p'.kd = p.kd) : ∀ n, n ≤ i → i ≤ 12 → (∀ j, j < i → eqF p' p j) → fpre K p' n = fpre K p n
  | 0, _, _, _ => by rw [fpre, fpre, hk]
  | n + 1, hn, hi, hs => by
    rw [fpre, fpre, fpre_eq hk n (by omega) hi hs, sameF_fb (by omega) (sameF_of (by omega) (hs n (by omega)))]
theorem fpre_add (K : Nat) (p : Pk) (j : Nat) : ∀ k, ∃ rest, fpre K p (j + k) = fpre K p j ++ rest
  | 0 => ⟨[], by rw [List.append_nil]; rfl⟩
  | k + 1 => by
    obtain ⟨rest, e⟩ := fpre_add K p j k
    exact ⟨rest ++ _, by rw [← Nat.add_assoc, fpre, e, List.append_assoc]⟩
theorem body_has {all : List UInt8} {y p : Pk} {i : Nat} (hi : i < 12) (hk : y.kd = p.kd) (hs : ∀ j, j < i → hasF p.kd.toNat j = true → sameF y p j) (hh : hasF p.kd.toNat i = true) (h : Has all 4 (body y)) : Has all (4 + (fpre p.kd.toNat p i).length) (fb y i) := by
  obtain ⟨rest, e⟩ := fpre_add y.kd.toNat y (i + 1) (11 - i)
  have e2 : fpre y.kd.toNat y (i + 1) = fpre p.kd.toNat p i ++ fb y i := by rw [fpre, fpre_same hk i (by omega) hs, hk, if_pos hh]
  rw [show i + 1 + (11 - i) = 12 by omega, e2, List.append_assoc] at e
  have h : Has all 4 (fpre y.kd.toNat y 12) := h
  rw [e] at h
  exact (Has.split.1 (Has.split.1 h).2).1
theorem summed_drop (l : List UInt8) : (summed l).drop 4 = l := by unfold summed; rw [List.drop_left' (enc_length _ _)]
theorem pk_has {l : List UInt8} {y : Pk} (h : l = pkB y) : Has l 4 (body y) := ⟨[], by rw [h, pkB, summed_drop, List.append_nil]⟩
end Go.Proofs.YtfijkedmbaghmaaGreatDoor
