/- TxnOne: the walk. -/
import Derived.Test.YtfjolpjlajjigaaDoorT20
set_option linter.unusedVariables false
set_option linter.unusedSimpArgs false
namespace Go.Proofs.YtfjolpjlajjigaaDoor
open Go.Sh
theorem tx_same {l : List UInt8} {t y : Tx} (h : y.hd = t.hd ∧ keyQ y.q = keyQ t.q) : txB y = txB t := by
  rw [txB_pre, txB_pre, h.1, keyQ_bytes _ _ h.2]
theorem opn_cap {P : Program} {w : World} {t e : TypeId} (ht : P.underlying t = some (.slice e)) : Opn P w t fun cs => ∃ a n c, cs = [.slice a n c] ∧ n ≤ c := fun H enc fuel cs x hx hw => by
  rcases DataW.trod_slice ht hx with ⟨h0, _⟩ | ⟨a, len, cap, elems, rest, n, _, h0, _, _, hl, _⟩
  · exact ⟨none, 0, 0, h0, Nat.le_refl _⟩
  · exact ⟨some a, len, cap, h0, hl⟩
theorem Opn.and {P : Program} {w : World} {t : TypeId} {Φ Ψ : List Value → Prop} (h1 : Opn P w t Φ) (h2 : Opn P w t Ψ) : Opn P w t fun cs => Φ cs ∧ Ψ cs := fun H enc fuel cs x hx hw => ⟨h1 H enc fuel cs x hx hw, h2 H enc fuel cs x hx hw⟩
def BytesC (w : World) (cs : List Value) : Prop := BytesO w cs ∧ ∃ a n c, cs = [.slice a n c] ∧ n ≤ c
theorem opn_BytesC (w : World) : Opn Tryd.prog w 22 (BytesC w) := Opn.and (opn_BytesO w) (opn_cap Tryd.underlying22)
def U8O (w : World) (cs : List Value) : Prop := ∃ m : UInt8, cs = [.int .u8 (m.toNat : Int)]
theorem opn_U8O (w : World) : Opn Tryd.prog w 5 (U8O w) := (opn_int Tryd.underlying5).mono fun cs ⟨n, h, a, b⟩ => by
  simp only [IntKind.min, IntKind.max, IntKind.signed, IntKind.bits] at a b
  simp at a b
  refine ⟨UInt8.ofNat n.toNat, ?_⟩
  rw [h]
  congr 2
  rw [UInt8.toNat_ofNat']; omega
def IntO (w : World) (cs : List Value) : Prop := ∃ n, cs = [.int .i64 n] ∧ -9223372036854775808 ≤ n ∧ n ≤ 9223372036854775807
theorem opn_IntO (w : World) : Opn Tryd.prog w 3 (IntO w) := (opn_int Tryd.underlying3).mono fun cs ⟨n, h, a, b⟩ => ⟨n, h, a, b⟩
section
variable (Z : List PanicEntry → World → Prop) {o w : World} {R As : List HProp}
theorem one {ax : Option Addr} {cx : Nat} {l : List UInt8} (n : Int) (m : UInt8) (hcap : l.length ≤ cx) (hr : -9223372036854775808 ≤ n ∧ n ≤ 9223372036854775807) (hx : Rd w 1 (.slice ax l.length cx) l.length (cb l)) (hN : Names w) :
    CallV Tryd.prog Z 3 #[.slice ax l.length cx, .int .i64 n, .int .u8 (m.toNat : Int)] w fun r w' => r = .bool true ∧ St w w' [old w] := by
  have hold : ∀ {R : List HProp}, old w ∈ R → Ent w R fun w' => Rd w' 1 (.slice ax l.length cx) l.length (cb l) := fun hm w' hS => hx.of_old hS hm
  refine f3.calls ?_
  unfold f3.sh
  refine (worksC Z hN m0 (St.start w)).mono fun r w1 ⟨hr, hS⟩ => ?_
  subst hr
  (try simp only [o_pickT, guardW_true, o_lss, ln_22_3, o_gtr, cond_decide])
  refine ⟨fun hbig => ⟨by first | rfl | trivial, hS⟩, fun hl => ?_⟩
  have hl : l.length ≤ 67108864 := by omega
  refine (copyBytes Z hS (hold m0) (by omega)).mono fun r w2 hS => ?_
  refine (readC Z hN m1 (fun w hw => hw.own_rd m0) (by omega) hS).mono fun r2 w3 hr => ?_
  have z0 : ((0 : Int) != 0) = false := rfl
  have z4 : ((40 : Int) != 0) = true := rfl
  have z2 : ((0 : Int) == 0) = true := rfl
  have z3 : ((40 : Int) == 40) = true := rfl
  rcases hr with ⟨t, htk, htc, htl, hu, rfl, hS⟩ | ⟨hno, rfl, hS⟩
  case inr =>
    (try simp only [o_ext2_1, o_eql, beq_self_eq_true, o_neq, Int.reduceBNe, condT, o_ext2_0])
    refine r_alloc hS ze36 fun g1 w4 hS => ?_
    refine r_storeN hS ag36 (xs := zTx) rfl (show 0 + 16 ≤ 16 from Nat.le_refl _) (hC_ones _) fun w5 hS => ?_
    skip
    exact ⟨by first | rfl | trivial, hS.drop.drop⟩
  (try simp only [o_ext2_1, o_eql, Int.reduceBEq, o_neq, bne_self_eq_false, condF, o_ext2_0])
  refine r_alloc hS ze36 fun g1 w4 hS => ?_
  have hq := (OwQ.rd _ hS.drop).ones
  refine r_storeN hS ag36 (xs := t.cells) rfl (show 0 + 16 ≤ 16 from Nat.le_refl _) (txC_ones hq) fun w5 hS => ?_
  rw [setL_all _ _ (by rfl)] at hS
  skip
  refine r_loadN ag36 (xs := t.cells) rfl (hS.cells_at m0 0 (whole_at _)) ?_
  refine (writeC Z t hN m3 (fun w hw => OwQ.rd _ (hw.drop)) hS).mono fun r w6 hr => ?_
  rw [if_pos htc, ← htl] at hr
  obtain ⟨v, rfl, hS⟩ := hr
  (try simp only [o_ext2_1, o_eql, beq_self_eq_true, o_pickT, guardW_true, o_ext2_0])
  refine (eqBytes Z (hx.of_old hS m4) (hS.own_rd m0)).mono fun r w7 ⟨hr, hd⟩ => ?_
  subst hr
  have hS := hS.drew hd
  rw [decide_eq_true rfl]
  refine (copyBytes Z hS (hold (List.mem_cons_of_mem _ m3)) (by omega)).mono fun r w8 hS => ?_
  refine r_push el22 hS (.int .u8 (m.toNat : Int)) rfl (by omega) (by simp only [maxLen]; omega) fun v2 w9 hS => ?_
  have e9 : cb l ++ [.int .u8 (m.toNat : Int)] = cb (l ++ [m]) := by rw [cb_append]; rfl
  rw [e9] at hS
  refine (readC Z (l := l ++ [m]) hN (List.mem_cons_of_mem _ (List.mem_cons_of_mem _ m3)) (fun w hw => hw.own_rd m0) (by simp; omega) hS).mono fun r w10 hr => ?_
  rcases hr with ⟨t2, htk2, htc2, htl2, hu2, rfl, hS⟩ | ⟨hno2, rfl, hS⟩
  · exfalso
    have h1 := hu2 t htk ⟨[m], by rw [List.drop_zero, htl2, ← htl2, htl]⟩
    have h2 := tx_same (l := l) h1
    rw [h2, ← htl2] at htl
    have := congrArg List.length htl
    simp at this
  (try simp only [o_pickT, guardW_true, o_ext2_1, o_eql, beq_self_eq_true, o_ext2_0])
  refine r_alloc hS ze36 fun g2 w11 hS => ?_
  refine r_storeN hS ag36 (xs := zTx) rfl (show 0 + 16 ≤ 16 from Nat.le_refl _) (hC_ones _) fun w12 hS => ?_
  intro j hj
  have hlpos : 0 < l.length := by
    rw [htl]
    simp only [txB, List.length_append, enc_length]
    omega
  have H : ∀ k : Nat, k < l.length → j (.int .i64 k) w12 := by
    intro k hk
    refine hj _ w12 fun _ => ?_
    clear hj
    have hle := hx.2.1
    refine r1 (run_slice_to el22 _ _ _ .i64 _ (by omega) (by omega) _) ?_
    simp only [Int.toNat_natCast]
    have hpre : ∀ {R : List HProp}, old w ∈ R → Ent w R fun w' => Rd w' 1 (.slice ax k cx) k (cb (l.take k)) := by
      intro R hm w' hS
      obtain ⟨h1, h2, ⟨c, hq, hn⟩ | ⟨a, c, hq, hc⟩⟩ := hold hm w' hS
      · omega
      · injection hq with hq1 hq2 hq3
        subst hq1; subst hq3
        refine ⟨by rw [cb_length, List.length_take]; omega, by omega, .inr ⟨a, cx, rfl, fun i u hu => hc i u ?_⟩⟩
        have hlt := (List.getElem?_eq_some_iff.1 hu).1
        rw [cb_length, List.length_take] at hlt
        simp only [cb, List.getElem?_map] at hu ⊢
        rw [List.getElem?_take_of_lt (by omega)] at hu
        exact hu
    have hkl : (l.take k).length = k := by rw [List.length_take]; omega
    refine (copyBytes Z hS (n := k) (l := l.take k) (hpre (List.mem_cons_of_mem _ (List.mem_cons_of_mem _ (List.mem_cons_of_mem _ m3)))) (by omega)).mono fun r w13 hS => ?_
    refine (readC Z (l := l.take k) hN (List.mem_cons_of_mem _ (List.mem_cons_of_mem _ (List.mem_cons_of_mem _ (List.mem_cons_of_mem _ m3)))) (fun w hw => hw.own_rd m0) (by omega) hS).mono fun r w14 hr => ?_
    rcases hr with ⟨t3, htk3, htc3, htl3, hu3, rfl, hS⟩ | ⟨hno3, rfl, hS⟩
    · exfalso
      have h1 := hu t3 htk3 ⟨l.drop k, by rw [List.drop_zero, ← htl3, List.take_append_drop]⟩
      have h2 := tx_same (l := l) h1
      rw [h2, ← htl] at htl3
      have := congrArg List.length htl3
      rw [hkl] at this
      omega
    (try simp only [o_ext2_1, o_eql, beq_self_eq_true, o_ext2_0])
    refine r_alloc hS ze36 fun g3 w15 hS => ?_
    refine r_storeN hS ag36 (xs := zTx) rfl (show 0 + 16 ≤ 16 from Nat.le_refl _) (hC_ones _) fun w16 hS => ?_
    skip
    exact ⟨by first | rfl | trivial, hS.drop.drop.drop.drop.drop.drop.drop.drop⟩
  clear hj
  by_cases h1 : n < 0
  · (try simp only [h1, decide_true, o_pickT, condT, guardW_tf])
    exact H 0 hlpos
  by_cases h2 : (l.length : Int) ≤ n
  · (try simp only [h1, decide_false, o_pickF, guardW_ff, ln_22_3, o_geq, h2, decide_true, condT])
    exact H 0 hlpos
  · (try simp only [h1, decide_false, o_pickF, guardW_ff, ln_22_3, o_geq, h2, condF])
    obtain ⟨k, rfl⟩ : ∃ k : Nat, n = k := ⟨n.toNat, by omega⟩
    exact H k (by omega)
end
end Go.Proofs.YtfjolpjlajjigaaDoor
