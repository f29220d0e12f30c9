/- EqTxn; works: one transaction there and back. -/
import Derived.Test.YtfjolpjlajjigaaDoorT18
set_option linter.unusedVariables false
set_option linter.unusedSimpArgs false
namespace Go.Proofs.YtfjolpjlajjigaaDoor
open Go.Sh
theorem txC_ones {t : Tx} (h : ones t.q.cells) : ones t.cells := by
  intro u hu
  have hu : u ∈ zx t.e t.n ++ (orC t.sv t.bo t.nu ++ t.q.cells) := hu
  rcases List.mem_append.1 hu with hu | hu
  · exact zx_ones _ _ u hu
  · rcases List.mem_append.1 hu with hu | hu
    · simp only [orC, List.mem_cons, List.not_mem_nil, or_false] at hu
      rcases hu with rfl | rfl | rfl <;> rfl
    · exact h u hu
theorem zx_at (t : Tx) : ∀ j v, (zx t.e t.n)[j]? = some v → t.cells[0 + j]? = some v := by
  rintro (_ | _ | j) v hv
  · exact hv
  · exact hv
  · simp [zx] at hv
theorem or_at (t : Tx) : ∀ j v, (orC t.sv t.bo t.nu)[j]? = some v → t.cells[2 + j]? = some v := by
  rintro (_ | _ | _ | j) v hv
  · exact hv
  · exact hv
  · exact hv
  · simp [orC] at hv
theorem rq_at (t : Tx) : ∀ j v, t.q.cells[j]? = some v → t.cells[5 + j]? = some v := fun j v hv => by rw [Nat.add_comm]; exact hv
/-- The one that works tries. -/
def q0 : Rq := .mk ⟨2, [47, 97], [], [], -1, false, false, 0, 0, []⟩ (.slice none 0 0) (.slice none 0 0) (.slice none 0 0) (.slice none 0 0) []
def t0 : Tx := ⟨1, 2, 3, 4, 5, q0⟩
theorem rd0 (w : World) (sz : Nat) : Rd w sz (.slice none 0 0) 0 [] := ⟨by simp, by simp [maxLen], .inl ⟨0, rfl, rfl⟩⟩
theorem q0_rd (w : World) : RdQ w q0 := .mk _ ⟨rd0 w 1, rd0 w 3, rd0 w 2⟩ (rd0 w 11) (fun x hx => by cases hx)
theorem t0_chk : chkT t0 = true := by decide +kernel
theorem t0_len : (txB t0).length = 44 := by decide +kernel
theorem t0_ok : okT t0 := by
  refine ⟨?_, ?_, ?_⟩
  · simp [hok, hokc, Tx.hd, t0]
  · refine ⟨⟨⟨⟨⟨⟨⟨⟨?_, ?_⟩, ?_⟩, ?_⟩, ?_⟩, ?_⟩, ?_⟩, ?_⟩, ?_⟩
    · simp [okTo, t0, q0, Rq.f]
    · show okc false t0.q.f 0
      simp only [okc]
      rw [if_pos (by decide +kernel)]
      simp [okL, t0, q0, Rq.f]
    · show okc false t0.q.f 1
      simp only [okc]
      rw [if_neg (by decide +kernel)]
      rfl
    · show okc false t0.q.f 2
      simp only [okc]
      rw [if_neg (by decide +kernel)]
      rfl
    · show okc false t0.q.f 3
      simp only [okc]
      rw [if_pos (by decide +kernel)]
      simp [t0, q0, Rq.f]
    · show okc false t0.q.f 4
      simp only [okc]
      rw [if_neg (by decide +kernel)]
      exact ⟨rfl, rfl⟩
    · show okc false t0.q.f 5
      simp only [okc]
      rw [if_pos (by decide +kernel)]
      simp [t0, q0, Rq.f]
    · show okc false t0.q.f 6
      simp only [okc]
      rw [if_neg (by decide +kernel)]
      rfl
    · show okc false t0.q.f 7
      simp only [okc]
      rw [if_pos (by decide +kernel)]
      simp [t0, q0, Rq.f]
  · rw [if_neg (by decide +kernel)]
    rfl
section
variable (Z : List PanicEntry → World → Prop) {o w : World} {R As : List HProp}
theorem eqT (a c : Tx) (hx : Ent o R fun w => RdQ w a.q) (hy : Ent o R fun w => RdQ w c.q) (h : St o w R) :
    CallV Tryd.prog Z 19 #[.agg a.cells.toArray, .agg c.cells.toArray] w fun r w' => (∃ b, r = .bool b ∧ (b = true ↔ a.hd = c.hd ∧ a.q.st = c.q.st)) ∧ St o w' R := by
  refine f19.calls ?_
  unfold f19.sh
  refine r_box _ _ h fun g1 w1 hS => ?_
  refine r_box _ _ hS fun g2 w2 hS => ?_
  have hS : St o w2 (blk g2 36 c.cells :: blk g1 36 a.cells :: R) := hS
  have bad : ∀ {w' : World}, ¬ (a.hd = c.hd ∧ a.q.st = c.q.st) → St o w' (blk g2 36 c.cells :: blk g1 36 a.cells :: R) → ((∃ b, Value.bool false = .bool b ∧ (b = true ↔ a.hd = c.hd ∧ a.q.st = c.q.st)) ∧ St o w' R) :=
    fun hne hS => ⟨⟨_, rfl, ⟨fun h => (by cases h), fun e => absurd e hne⟩⟩, hS.drop.drop⟩
  (try simp only [fa_36_1, Nat.zero_add, fa_36_2, fa_36_0, Nat.add_zero])
  refine r_loadN ag26 (xs := zx a.e a.n) rfl (hS.cells_at m1 0 (zx_at a)) ?_
  refine r_loadN ag26 (xs := zx c.e c.n) rfl (hS.cells_at m0 0 (zx_at c)) ?_
  refine r1 (eqZx a.e a.n c.e c.n _) ?_
  by_cases hz : a.e = c.e ∧ a.n = c.n
  case neg =>
    have e : ((a.e == c.e) && (a.n == c.n)) = false := by
      by_cases h1 : a.e = c.e <;> by_cases h2 : a.n = c.n <;> simp [h1, h2]
      exact hz ⟨h1, h2⟩
    rw [e]
    (try simp only [o_pickF, guardW_ft])
    exact bad (fun h => hz ⟨congrArg Hd.e h.1, congrArg Hd.n h.1⟩) hS
  have e : ((a.e == c.e) && (a.n == c.n)) = true := by simp [hz.1, hz.2]
  rw [e]
  (try simp only [o_pickT, guardW_true])
  refine r_loadN ag29 (xs := orC a.sv a.bo a.nu) rfl (hS.cells_at m1 2 (or_at a)) ?_
  refine r_loadN ag29 (xs := orC c.sv c.bo c.nu) rfl (hS.cells_at m0 2 (or_at c)) ?_
  refine r1 (eqOr a.sv a.bo a.nu c.sv c.bo c.nu _) ?_
  by_cases ho : a.sv = c.sv ∧ a.bo = c.bo ∧ a.nu = c.nu
  case neg =>
    rw [decide_eq_false ho]
    (try simp only [o_pickF, guardW_ft])
    exact bad (fun h => ho ⟨congrArg Hd.sv h.1, congrArg Hd.bo h.1, congrArg Hd.nu h.1⟩) hS
  rw [decide_eq_true ho]
  (try simp only [o_pickT, guardW_true])
  refine r_loadN ag34 (xs := a.q.cells) rfl (hS.cells_at m1 5 (rq_at a)) ?_
  refine r_loadN ag34 (xs := c.q.cells) rfl (hS.cells_at m0 5 (rq_at c)) ?_
  refine (eqQ Z a.q c.q (fun w hw => hx w hw.drop.drop) (fun w hw => hy w hw.drop.drop) hS).mono fun r w3 ⟨⟨b, hr, hb⟩, hS⟩ => ?_
  subst hr
  skip
  refine ⟨⟨b, rfl, hb.trans ⟨fun h => ⟨?_, h⟩, fun h => h.2⟩⟩, hS.drop.drop⟩
  show (⟨a.e, a.n, a.sv, a.bo, a.nu⟩ : Hd) = ⟨c.e, c.n, c.sv, c.bo, c.nu⟩
  rw [hz.1, hz.2, ho.1, ho.2.1, ho.2.2]
theorem worksC (hN : Names o) (ho : old o ∈ R) (h : St o w R) : CallV Tryd.prog Z 10 #[] w fun r w' => r = .bool true ∧ St o w' R := by
  refine f10.calls ?_
  unfold f10.sh
  refine r_build (cells := (zx 1 2).toArray) (by kernel_rfl) ?_
  refine r_build (cells := (orC 3 4 5).toArray) (by kernel_rfl) ?_
  refine r_build (cells := q0.cells.toArray) (by kernel_rfl) ?_
  refine r_build (cells := t0.cells.toArray) (by kernel_rfl) ?_
  refine r_alloc h ze36 fun g1 w1 hS => ?_
  have hq0 : Ent o R fun w => RdQ w q0 := fun w _ => q0_rd w
  refine r_storeN hS ag36 (xs := t0.cells) rfl (show 0 + 16 ≤ 16 from Nat.le_refl _) (txC_ones (q0_rd w).ones) fun w2 hS => ?_
  rw [setL_all _ _ (by rfl)] at hS
  refine r_loadN ag36 (xs := t0.cells) rfl (hS.cells_at m0 0 (whole_at _)) ?_
  refine (writeC Z t0 hN (List.mem_cons_of_mem _ ho) (fun w _ => q0_rd w) hS).mono fun r w3 hr => ?_
  rw [if_pos t0_chk] at hr
  obtain ⟨v, rfl, hS⟩ := hr
  rw [t0_len] at hS
  obtain ⟨va, vc, rfl⟩ := hS.own_form
  (try simp only [o_ext2_1, o_eql, beq_self_eq_true, o_pickT, guardW_true, o_ext2_0])
  refine (readC Z hN (List.mem_cons_of_mem _ (List.mem_cons_of_mem _ ho)) (fun w hw => hw.own_rd m0) (by rw [t0_len]; omega) hS).mono fun r w4 hr => ?_
  rcases hr with ⟨t, htk, htc, hl, hu, rfl, hS⟩ | ⟨hno, _⟩
  case inr => exact absurd rfl (hno t0 t0_ok t0_chk)
  obtain ⟨h1, h2⟩ := hu t0 t0_ok ⟨[], by rw [List.append_nil]; rfl⟩
  have hst : t0.q.st = t.q.st := by
    have hf : t0.q.f = t.q.f := congrArg Prod.fst h2
    have ho : t.q.ops = [] := by
      have := htk.2.2
      rw [← hf, if_neg (by decide +kernel)] at this
      exact this
    rw [st_iff]
    exact ⟨hf, by rw [ho]; rfl⟩
  have hrq : RdQ w4 t.q := OwQ.rd _ hS
  (try simp only [o_ext2_1, o_eql, beq_self_eq_true, o_pickT, guardW_true, ln_22_3, o_ext2_0])
  refine r_alloc hS ze36 fun g2 w5 hS => ?_
  refine r_storeN hS ag36 (xs := t.cells) rfl (show 0 + 16 ≤ 16 from Nat.le_refl _) (txC_ones hrq.ones) fun w6 hS => ?_
  rw [setL_all _ _ (by rfl)] at hS
  have z0 : ((0 : Int) == 0) = true := rfl
  have z1 : (((44 : Nat) : Int) == 44) = true := rfl
  (try simp only [z1, o_pickT, guardW_true])
  refine r_loadN ag36 (xs := t0.cells) rfl (hS.cells_at m3 0 (whole_at _)) ?_
  refine r_loadN ag36 (xs := t.cells) rfl (hS.cells_at m0 0 (whole_at _)) ?_
  refine (eqT Z t0 t (fun w _ => q0_rd w) (fun w hw => OwQ.rd _ hw.drop) hS).mono fun r w7 ⟨⟨b, hr, hb⟩, hS⟩ => ?_
  subst hr
  skip
  rw [hb.2 ⟨h1, hst⟩]
  exact ⟨by first | rfl | trivial, hS.drop.drop.drop.drop⟩
end
end Go.Proofs.YtfjolpjlajjigaaDoor
