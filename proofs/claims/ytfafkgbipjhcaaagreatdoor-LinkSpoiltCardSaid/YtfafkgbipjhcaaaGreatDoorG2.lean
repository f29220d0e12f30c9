/- What a kind of packets names; whether all the rest is zero. Printed by wip/sh/mkG2.py. -/
import Derived.Test.YtfafkgbipjhcaaaGreatDoorG1
import Derived.Test.YtfafkgbipjhcaaaGreatDoorTz
set_option linter.unusedVariables false
set_option linter.unusedSimpArgs false
namespace Go.Proofs.YtfafkgbipjhcaaaGreatDoor
open Go.Sh
def namedTab : List Int := [0, 9, 15, 191, 39, 583, 1287, 47, 15, 39, 583, 39, 39, 519, 2055]
def Named (o : World) : Prop := Lib.TabIs Tryz.prog o "lagoon/packet.named" .i64 namedTab
def nmP (k : Nat) : Nat := (namedTab.getD k 0).toNat
theorem nmP_int (k : Nat) (hk : k ≤ 14) : namedTab.getD k 0 = (nmP k : Int) := by
  obtain rfl | rfl | rfl | rfl | rfl | rfl | rfl | rfl | rfl | rfl | rfl | rfl | rfl | rfl | rfl : k = 0 ∨ k = 1 ∨ k = 2 ∨ k = 3 ∨ k = 4 ∨ k = 5 ∨ k = 6 ∨ k = 7 ∨ k = 8 ∨ k = 9 ∨ k = 10 ∨ k = 11 ∨ k = 12 ∨ k = 13 ∨ k = 14 := by omega
  all_goals rfl
def hasF (k i : Nat) : Bool := (nmP k).testBit i
theorem and_fin : ∀ k : Fin 15, ∀ i : Fin 12, ((IntKind.i64.wrap ((BitVec.ofInt IntKind.i64.bits ((nmP k.1 : Nat) : Int) &&& BitVec.ofInt IntKind.i64.bits ((2 ^ i.1 : Nat) : Int)).toNat : Int)) == 0) = !hasF k.1 i.1 := by decide +kernel
theorem andB (k i : Nat) (hk : k ≤ 14) (hi : i ≤ 11) (b : Int) (hb : b = ((2 ^ i : Nat) : Int)) : ∃ v : Int, (∀ (t : TypeId) (w : World), (binOp .and t (.int .i64 (nmP k)) (.int .i64 b)).run Tryz.prog w = .ok (.int .i64 v) w) ∧ (v == 0) = !hasF k i ∧ (v != 0) = hasF k i := by
  subst hb
  have h := and_fin ⟨k, by omega⟩ ⟨i, by omega⟩
  exact ⟨_, fun t w => run_and _ w t .i64 _ _, h, by unfold bne; rw [h]; simp⟩
theorem run_namedIx (kd : Int) (h : 0 ≤ kd ∧ kd ≤ 14) (w : World) : (Instr.indexAt 111 (.pointer (some ⟨0, 0, none⟩)) (.int .i8 kd)).run Tryz.prog w = .ok (.pointer (some ⟨0, kd.toNat, none⟩)) w := by
  have hl : Tryz.prog.arrayLen 111 = 15 := by kernel_rfl
  have he : Tryz.prog.elem 111 = 3 := by kernel_rfl
  have hs : (sizeOf 3).run Tryz.prog w = .ok 1 w := by kernel_rfl
  rw [run_indexAt_array _ _ _ _ _ (by kernel_rfl), hl, he, hs, if_pos ⟨h.1, by omega⟩]
  simp [Result.andThen, Addr.add]
  intro h0
  omega
def isKd (kd : Int) : Bool := decide (1 ≤ kd) && decide (kd ≤ 14)
structure Rs where
  cb : Int
  ct : Int
  lb : Int
  lt : Int
  pl : Int
  se : Int
  ep : Int
  cu : Int
  ze : Int
  zn : Int
  ve : Int
  vn : Int
  co : Bool
  fi : Bool
def Rs.cells (x : Rs) : List Value := [.int .u32 x.cb, .int .u32 x.ct, .int .u32 x.lb, .int .u32 x.lt, .int .i64 x.pl, .int .i64 x.se, .int .u32 x.ep, .int .u32 x.cu, .int .u32 x.ze, .int .u32 x.zn, .int .u32 x.ve, .int .u32 x.vn, .bool x.co, .bool x.fi]
def rs0 : Rs := ⟨0, 0, 0, 0, 0, 0, 0, 0, 0, 0, 0, 0, false, false⟩

open Classical in
noncomputable def zr (p : Pk) : Nat → Bool
  | 0 => (p.cb == 0) && (p.ct == 0)
  | 1 => (p.lb == 0) && (p.lt == 0)
  | 2 => p.pl == 0
  | 3 => p.ep == 0
  | 4 => p.cu == 0
  | 5 => (p.ze == 0) && (p.zn == 0)
  | 6 => (p.ve == 0) && (p.vn == 0)
  | 7 => !p.co
  | 8 => !p.fi
  | 9 => decide (p.t.hd = tz.hd ∧ p.t.q.st = tz.q.st)
  | 10 => decide (p.b.length = 0)
  | _ => p.se == 0
theorem eqConnIn (a b a' b' : Int) (d : Nat) (w : World) : (Op.equalIn (d + 2) 25 (.agg (zx a b).toArray) (.agg (zx a' b').toArray)).run Tryz.prog w = .ok ((a == a') && (b == b')) w := by
  have hu : Tryz.prog.underlying 25 = some (.struct (Tryz.prog.fieldsOf 25)) := by kernel_rfl
  have hs : Tryz.prog.stoodInHeld 25 = false := by kernel_rfl
  have hk : Tryz.prog.plainKey 23 = true := by kernel_rfl
  have p0 : ∀ (a b : Int) (w : World), (part 23 (zx a b).toArray 0).run Tryz.prog w = .ok (.int .u32 a) w := fun a b w => run_part_plain w hk rfl
  have p1 : ∀ (a b : Int) (w : World), (part 23 (zx a b).toArray 1).run Tryz.prog w = .ok (.int .u32 b) w := fun a b w => run_part_plain w hk rfl
  rw [run_equalIn_agg _ _ _ _ _ hu hs]
  simp [Program.fieldsOf, Tryz.underlying25, Op.eqFields, p0, p1, run_equalIn_int _ _ _ _ _ _ _ Tryz.underlying23]
  by_cases h1 : a = a' <;> by_cases h2 : b = b' <;> simp [h1, h2]
theorem eqZxIn (a b a' b' : Int) (d : Nat) (w : World) : (Op.equalIn (d + 2) 27 (.agg (zx a b).toArray) (.agg (zx a' b').toArray)).run Tryz.prog w = .ok ((a == a') && (b == b')) w := by
  have hu : Tryz.prog.underlying 27 = some (.struct (Tryz.prog.fieldsOf 27)) := by kernel_rfl
  have hs : Tryz.prog.stoodInHeld 27 = false := by kernel_rfl
  have hk : Tryz.prog.plainKey 23 = true := by kernel_rfl
  have p0 : ∀ (a b : Int) (w : World), (part 23 (zx a b).toArray 0).run Tryz.prog w = .ok (.int .u32 a) w := fun a b w => run_part_plain w hk rfl
  have p1 : ∀ (a b : Int) (w : World), (part 23 (zx a b).toArray 1).run Tryz.prog w = .ok (.int .u32 b) w := fun a b w => run_part_plain w hk rfl
  rw [run_equalIn_agg _ _ _ _ _ hu hs]
  simp [Program.fieldsOf, Tryz.underlying27, Op.eqFields, p0, p1, run_equalIn_int _ _ _ _ _ _ _ Tryz.underlying23]
  by_cases h1 : a = a' <;> by_cases h2 : b = b' <;> simp [h1, h2]
theorem run_equalIn_boolT {t : TypeId} (h : Tryz.prog.underlying t = some .bool) (d : Nat) (a b : Bool) (w : World) : (Op.equalIn (d + 1) t (.bool a) (.bool b)).run Tryz.prog w = .ok (a == b) w := by simp [Op.equalIn, run_underlying h]
def rsZero (x : Rs) : Bool := ((x.cb == 0) && (x.ct == 0)) && (((x.lb == 0) && (x.lt == 0)) && ((x.pl == 0) && ((x.se == 0) && ((x.ep == 0) && ((x.cu == 0) && (((x.ze == 0) && (x.zn == 0)) && (((x.ve == 0) && (x.vn == 0)) && ((x.co == false) && (x.fi == false)))))))))
theorem eqRest (x : Rs) (w : World) : (eqOp .eql 129 false false (.agg x.cells.toArray) (.agg rs0.cells.toArray)).run Tryz.prog w = .ok (.bool (rsZero x)) w := by
  have hg : Tryz.prog.eqGuardType Tryz.prog.depth 129 = false := by kernel_rfl
  have hu : Tryz.prog.underlying 129 = some (.struct (Tryz.prog.fieldsOf 129)) := by kernel_rfl
  have hs : Tryz.prog.stoodInHeld 129 = false := by kernel_rfl
  have k32 : Tryz.prog.plainKey 23 = true := by kernel_rfl
  have k64 : Tryz.prog.plainKey 2 = true := by kernel_rfl
  have kb : Tryz.prog.plainKey 4 = true := by kernel_rfl
  have hc : ∀ w, (sizeOf 25).run Tryz.prog w = .ok 2 w := fun w => by kernel_rfl
  have hz : ∀ w, (sizeOf 27).run Tryz.prog w = .ok 2 w := fun w => by kernel_rfl
  have q0 : ∀ (x : Rs) (w : World), (part 25 x.cells.toArray 0).run Tryz.prog w = .ok (.agg (zx x.cb x.ct).toArray) w := fun x w => by
    unfold part
    simp only [Sem.run_bind, run_isAgg ag25, Result.andThen_ok, if_true, hc]
    simp [Rs.cells, zx]
  have q1 : ∀ (x : Rs) (w : World), (part 25 x.cells.toArray 2).run Tryz.prog w = .ok (.agg (zx x.lb x.lt).toArray) w := fun x w => by
    unfold part
    simp only [Sem.run_bind, run_isAgg ag25, Result.andThen_ok, if_true, hc]
    simp [Rs.cells, zx]
  have q8 : ∀ (x : Rs) (w : World), (part 27 x.cells.toArray 8).run Tryz.prog w = .ok (.agg (zx x.ze x.zn).toArray) w := fun x w => by
    unfold part
    simp only [Sem.run_bind, run_isAgg ag27, Result.andThen_ok, if_true, hz]
    simp [Rs.cells, zx]
  have q10 : ∀ (x : Rs) (w : World), (part 27 x.cells.toArray 10).run Tryz.prog w = .ok (.agg (zx x.ve x.vn).toArray) w := fun x w => by
    unfold part
    simp only [Sem.run_bind, run_isAgg ag27, Result.andThen_ok, if_true, hz]
    simp [Rs.cells, zx]
  have p4 : ∀ (x : Rs) (w : World), (part 2 x.cells.toArray 4).run Tryz.prog w = .ok (.int .i64 x.pl) w := fun x w => run_part_plain w k64 rfl
  have p5 : ∀ (x : Rs) (w : World), (part 2 x.cells.toArray 5).run Tryz.prog w = .ok (.int .i64 x.se) w := fun x w => run_part_plain w k64 rfl
  have p6 : ∀ (x : Rs) (w : World), (part 23 x.cells.toArray 6).run Tryz.prog w = .ok (.int .u32 x.ep) w := fun x w => run_part_plain w k32 rfl
  have p7 : ∀ (x : Rs) (w : World), (part 23 x.cells.toArray 7).run Tryz.prog w = .ok (.int .u32 x.cu) w := fun x w => run_part_plain w k32 rfl
  have p12 : ∀ (x : Rs) (w : World), (part 4 x.cells.toArray 12).run Tryz.prog w = .ok (.bool x.co) w := fun x w => run_part_plain w kb rfl
  have p13 : ∀ (x : Rs) (w : World), (part 4 x.cells.toArray 13).run Tryz.prog w = .ok (.bool x.fi) w := fun x w => run_part_plain w kb rfl
  unfold eqOp
  simp only [Sem.run_bind, run_eqGuard_agg _ _ _ _ _ _ _ hg, Result.andThen_ok, run_eql_struct, run_equalIn_agg _ _ _ _ _ hu hs]
  have hf : (Tryz.prog.fieldsOf 129).toList.map (fun f => (f.name != "_", f.type, f.offset)) = [(true, 25, 0), (true, 25, 2), (true, 2, 4), (true, 2, 5), (true, 23, 6), (true, 23, 7), (true, 27, 8), (true, 27, 10), (true, 4, 12), (true, 4, 13)] := by kernel_rfl
  simp [Program.fieldsOf, Tryz.underlying129, Op.eqFields, q0, q1, q8, q10, p4, p5, p6, p7, p12, p13, eqConnIn, eqZxIn, run_equalIn_int _ _ _ _ _ _ _ Tryz.underlying23, run_equalIn_int _ _ _ _ _ _ _ Tryz.underlying2, run_equalIn_boolT Tryz.underlying4]
  obtain ⟨a1, a2, a3, a4, a5, a6, a7, a8, a9, a10, a11, a12, a13, a14⟩ := x
  unfold rsZero rs0
  by_cases h1 : a1 = 0
  rotate_left
  · simp [h1]
  subst h1
  by_cases h2 : a2 = 0
  rotate_left
  · simp [h2]
  subst h2
  by_cases h3 : a3 = 0
  rotate_left
  · simp [h3]
  subst h3
  by_cases h4 : a4 = 0
  rotate_left
  · simp [h4]
  subst h4
  by_cases h5 : a5 = 0
  rotate_left
  · simp [h5]
  subst h5
  by_cases h6 : a6 = 0
  rotate_left
  · simp [h6]
  subst h6
  by_cases h7 : a7 = 0
  rotate_left
  · simp [h7]
  subst h7
  by_cases h8 : a8 = 0
  rotate_left
  · simp [h8]
  subst h8
  by_cases h9 : a9 = 0
  rotate_left
  · simp [h9]
  subst h9
  by_cases h10 : a10 = 0
  rotate_left
  · simp [h10]
  subst h10
  by_cases h11 : a11 = 0
  rotate_left
  · simp [h11]
  subst h11
  by_cases h12 : a12 = 0
  rotate_left
  · simp [h12]
  subst h12
  cases a13 <;> cases a14 <;> simp
section
variable (Z : List PanicEntry → World → Prop) {o w : World} {R As : List HProp} {g gp gx g2 : Nat} {p : Pk} {x : Rs} {K : Nat}
theorem named_at (hN : Named o) (hS : St o w As) (ho : old o ∈ As) (k : Nat) (hk : k ≤ 14) : w.cell? ⟨0, k, none⟩ = some (.int .i64 (nmP k)) := by
  have h : Lib.TabIs Tryz.prog w "lagoon/packet.named" .i64 namedTab := Lib.tabBelow_of_tabIs hN w (hS.below ho)
  rw [← nmP_int k hk]
  exact h.cell (by kernel_rfl) k (by simp [namedTab]; omega)
theorem pnames (kd : Int) (hN : Named o) (ho : old o ∈ R) (h : St o w R) : CallV Tryz.prog Z 27 #[.int .i8 kd] w fun r w' => r = .tuple #[.int .i64 (if isKd kd then (nmP kd.toNat : Int) else 0), .bool (isKd kd)] ∧ w' = w := by
  refine f27.calls ?_
  unfold f27.sh
  by_cases h1 : kd < 1
  · have hk : isKd kd = false := by simp [isKd]; omega
    (try simp only [o_lss, h1, decide_true, o_pickT, condT, guardW_tf])
    rw [hk]
    exact ⟨by first | rfl | trivial, by first | rfl | trivial⟩
  · by_cases h2 : (14 : Int) < kd
    · have hk : isKd kd = false := by simp [isKd]; omega
      (try simp only [o_lss, h1, decide_false, o_pickF, guardW_ff, o_gtr, h2, decide_true, condT])
      rw [hk]
      exact ⟨by first | rfl | trivial, by first | rfl | trivial⟩
    · have hk : isKd kd = true := by simp [isKd]; omega
      (try simp only [o_lss, h1, decide_false, o_pickF, guardW_ff, o_gtr, h2, condF])
      refine r1 (run_namedIx kd (by omega) _) ?_
      refine r_load one3 (named_at hN h ho _ (by omega)) ?_
      rw [hk]
      exact ⟨by first | rfl | trivial, by first | rfl | trivial⟩
theorem copy2 (h : St o w (blk gp 39 p.cells :: blk gx 129 x.cells :: R)) : CallV Tryz.prog Z 99 #[.pointer (some ⟨gp, 0, none⟩), .pointer (some ⟨gx, 0, none⟩)] w fun r w' => St o w' (blk gp 39 p.cells :: blk gx 129 ({ x with cb := p.cb, ct := p.ct } : Rs).cells :: R) := by
  refine f99.calls ?_
  unfold f99.sh
  (try simp only [fa_129_0, Nat.add_zero, fa_39_1, Nat.zero_add])
  refine r_loadN ag25 (xs := zx p.cb p.ct) rfl (h.cells_at m0 1 (pk_two ⟨rfl, rfl⟩)) ?_
  skip
  refine r_storeN h.swap ag25 (xs := zx p.cb p.ct) rfl (by show 2 ≤ 14; omega) (zx_ones _ _) fun w1 hS => ?_
  exact hS.swap
theorem keep2 {kk : Value → World → Prop} (hK : K ≤ 14) (h : St o w (blk g2 3 [.int .i64 (nmP K)] :: blk gp 39 p.cells :: blk gx 129 x.cells :: R)) (hk : ∀ r w', St o w' (blk g2 3 [.int .i64 (nmP K)] :: blk gp 39 p.cells :: blk gx 129 ({ x with cb := if hasF K 0 then x.cb else p.cb, ct := if hasF K 0 then x.ct else p.ct } : Rs).cells :: R) → kk r w') : runX Tryz.prog Z (callVal (.func (.func 98) #[] #[.pointer (some ⟨g2, 0, none⟩)]) #[.int .i64 1, .func (.func 99) #[] #[.pointer (some ⟨gp, 0, none⟩), .pointer (some ⟨gx, 0, none⟩)]]) w kk := by
  refine r_callVal en98 (l1 := []) (l2 := [_, _]) (l3 := [_]) rfl rfl rfl ?_
  refine CallV.mono ?_ hk
  clear hk
  refine f98.calls ?_
  unfold f98.sh
  refine r_load one3 (h.at m0 0 rfl) ?_
  obtain ⟨v, hv, hv0, _⟩ := andB K 0 hK (by omega) 1 rfl
  refine r1 (hv _ _) ?_
  refine r1 (run_eql_int _ _ _ _ _ _ _ _) ?_
  rw [hv0]
  cases hh : hasF K 0 with
  | true =>
    (try simp only [Bool.not_true, condF])
    simpa only [hh, if_true] using h
  | false =>
    (try simp only [Bool.not_false, condT])
    refine r_callVal en99 (l1 := []) (l2 := []) (l3 := [_, _]) rfl rfl rfl ?_
    refine (copy2 Z (h.put 2)).mono fun r w1 hS => ?_
    simp only [if_neg Bool.false_ne_true]
    (refine Sh.St.sub ?_ (hS); repeat (first | with_reducible exact sub_refl | with_reducible exact sub_nil | with_reducible refine sub_p0 ?_ | with_reducible refine sub_p1 ?_ | with_reducible refine sub_p2 ?_ | with_reducible refine sub_p3 ?_ | with_reducible refine sub_p4 ?_ | with_reducible refine sub_p5 ?_ | with_reducible refine sub_p6 ?_ | with_reducible refine sub_p7 ?_ | with_reducible refine sub_p8 ?_ | with_reducible refine sub_p9 ?_ | with_reducible refine sub_p10 ?_ | with_reducible refine sub_p11 ?_ | with_reducible refine sub_p12 ?_ | with_reducible refine sub_p13 ?_ | with_reducible refine sub_p14 ?_ | with_reducible refine sub_p15 ?_ | exact sub_refl | refine sub_p0 ?_ | refine sub_p1 ?_ | refine sub_p2 ?_ | refine sub_p3 ?_ | refine sub_p4 ?_ | refine sub_p5 ?_ | refine sub_p6 ?_ | refine sub_p7 ?_ | refine sub_p8 ?_ | refine sub_p9 ?_ | refine sub_p10 ?_ | refine sub_p11 ?_ | refine sub_p12 ?_ | refine sub_p13 ?_ | refine sub_p14 ?_ | refine sub_p15 ?_ | refine sub_drop ?_))
theorem copy3 (h : St o w (blk gp 39 p.cells :: blk gx 129 x.cells :: R)) : CallV Tryz.prog Z 100 #[.pointer (some ⟨gp, 0, none⟩), .pointer (some ⟨gx, 0, none⟩)] w fun r w' => St o w' (blk gp 39 p.cells :: blk gx 129 ({ x with lb := p.lb, lt := p.lt } : Rs).cells :: R) := by
  refine f100.calls ?_
  unfold f100.sh
  (try simp only [fa_129_1, Nat.zero_add, fa_39_2])
  refine r_loadN ag25 (xs := zx p.lb p.lt) rfl (h.cells_at m0 3 (pk_two ⟨rfl, rfl⟩)) ?_
  skip
  refine r_storeN h.swap ag25 (xs := zx p.lb p.lt) rfl (by show 4 ≤ 14; omega) (zx_ones _ _) fun w1 hS => ?_
  exact hS.swap
theorem keep3 {kk : Value → World → Prop} (hK : K ≤ 14) (h : St o w (blk g2 3 [.int .i64 (nmP K)] :: blk gp 39 p.cells :: blk gx 129 x.cells :: R)) (hk : ∀ r w', St o w' (blk g2 3 [.int .i64 (nmP K)] :: blk gp 39 p.cells :: blk gx 129 ({ x with lb := if hasF K 1 then x.lb else p.lb, lt := if hasF K 1 then x.lt else p.lt } : Rs).cells :: R) → kk r w') : runX Tryz.prog Z (callVal (.func (.func 98) #[] #[.pointer (some ⟨g2, 0, none⟩)]) #[.int .i64 2, .func (.func 100) #[] #[.pointer (some ⟨gp, 0, none⟩), .pointer (some ⟨gx, 0, none⟩)]]) w kk := by
  refine r_callVal en98 (l1 := []) (l2 := [_, _]) (l3 := [_]) rfl rfl rfl ?_
  refine CallV.mono ?_ hk
  clear hk
  refine f98.calls ?_
  unfold f98.sh
  refine r_load one3 (h.at m0 0 rfl) ?_
  obtain ⟨v, hv, hv0, _⟩ := andB K 1 hK (by omega) 2 rfl
  refine r1 (hv _ _) ?_
  refine r1 (run_eql_int _ _ _ _ _ _ _ _) ?_
  rw [hv0]
  cases hh : hasF K 1 with
  | true =>
    (try simp only [Bool.not_true, condF])
    simpa only [hh, if_true] using h
  | false =>
    (try simp only [Bool.not_false, condT])
    refine r_callVal en100 (l1 := []) (l2 := []) (l3 := [_, _]) rfl rfl rfl ?_
    refine (copy3 Z (h.put 2)).mono fun r w1 hS => ?_
    simp only [if_neg Bool.false_ne_true]
    (refine Sh.St.sub ?_ (hS); repeat (first | with_reducible exact sub_refl | with_reducible exact sub_nil | with_reducible refine sub_p0 ?_ | with_reducible refine sub_p1 ?_ | with_reducible refine sub_p2 ?_ | with_reducible refine sub_p3 ?_ | with_reducible refine sub_p4 ?_ | with_reducible refine sub_p5 ?_ | with_reducible refine sub_p6 ?_ | with_reducible refine sub_p7 ?_ | with_reducible refine sub_p8 ?_ | with_reducible refine sub_p9 ?_ | with_reducible refine sub_p10 ?_ | with_reducible refine sub_p11 ?_ | with_reducible refine sub_p12 ?_ | with_reducible refine sub_p13 ?_ | with_reducible refine sub_p14 ?_ | with_reducible refine sub_p15 ?_ | exact sub_refl | refine sub_p0 ?_ | refine sub_p1 ?_ | refine sub_p2 ?_ | refine sub_p3 ?_ | refine sub_p4 ?_ | refine sub_p5 ?_ | refine sub_p6 ?_ | refine sub_p7 ?_ | refine sub_p8 ?_ | refine sub_p9 ?_ | refine sub_p10 ?_ | refine sub_p11 ?_ | refine sub_p12 ?_ | refine sub_p13 ?_ | refine sub_p14 ?_ | refine sub_p15 ?_ | refine sub_drop ?_))
theorem copy4 (h : St o w (blk gp 39 p.cells :: blk gx 129 x.cells :: R)) : CallV Tryz.prog Z 101 #[.pointer (some ⟨gp, 0, none⟩), .pointer (some ⟨gx, 0, none⟩)] w fun r w' => St o w' (blk gp 39 p.cells :: blk gx 129 ({ x with pl := p.pl } : Rs).cells :: R) := by
  refine f101.calls ?_
  unfold f101.sh
  (try simp only [fa_129_2, Nat.zero_add, fa_39_3])
  refine r_load one2 (h.at m0 5 rfl) ?_
  skip
  refine r_store h.swap one2 (by show 4 < 14; omega) rfl fun w1 hS => ?_
  exact hS.swap
theorem keep4 {kk : Value → World → Prop} (hK : K ≤ 14) (h : St o w (blk g2 3 [.int .i64 (nmP K)] :: blk gp 39 p.cells :: blk gx 129 x.cells :: R)) (hk : ∀ r w', St o w' (blk g2 3 [.int .i64 (nmP K)] :: blk gp 39 p.cells :: blk gx 129 ({ x with pl := if hasF K 2 then x.pl else p.pl } : Rs).cells :: R) → kk r w') : runX Tryz.prog Z (callVal (.func (.func 98) #[] #[.pointer (some ⟨g2, 0, none⟩)]) #[.int .i64 4, .func (.func 101) #[] #[.pointer (some ⟨gp, 0, none⟩), .pointer (some ⟨gx, 0, none⟩)]]) w kk := by
  refine r_callVal en98 (l1 := []) (l2 := [_, _]) (l3 := [_]) rfl rfl rfl ?_
  refine CallV.mono ?_ hk
  clear hk
  refine f98.calls ?_
  unfold f98.sh
  refine r_load one3 (h.at m0 0 rfl) ?_
  obtain ⟨v, hv, hv0, _⟩ := andB K 2 hK (by omega) 4 rfl
  refine r1 (hv _ _) ?_
  refine r1 (run_eql_int _ _ _ _ _ _ _ _) ?_
  rw [hv0]
  cases hh : hasF K 2 with
  | true =>
    (try simp only [Bool.not_true, condF])
    simpa only [hh, if_true] using h
  | false =>
    (try simp only [Bool.not_false, condT])
    refine r_callVal en101 (l1 := []) (l2 := []) (l3 := [_, _]) rfl rfl rfl ?_
    refine (copy4 Z (h.put 2)).mono fun r w1 hS => ?_
    simp only [if_neg Bool.false_ne_true]
    (refine Sh.St.sub ?_ (hS); repeat (first | with_reducible exact sub_refl | with_reducible exact sub_nil | with_reducible refine sub_p0 ?_ | with_reducible refine sub_p1 ?_ | with_reducible refine sub_p2 ?_ | with_reducible refine sub_p3 ?_ | with_reducible refine sub_p4 ?_ | with_reducible refine sub_p5 ?_ | with_reducible refine sub_p6 ?_ | with_reducible refine sub_p7 ?_ | with_reducible refine sub_p8 ?_ | with_reducible refine sub_p9 ?_ | with_reducible refine sub_p10 ?_ | with_reducible refine sub_p11 ?_ | with_reducible refine sub_p12 ?_ | with_reducible refine sub_p13 ?_ | with_reducible refine sub_p14 ?_ | with_reducible refine sub_p15 ?_ | exact sub_refl | refine sub_p0 ?_ | refine sub_p1 ?_ | refine sub_p2 ?_ | refine sub_p3 ?_ | refine sub_p4 ?_ | refine sub_p5 ?_ | refine sub_p6 ?_ | refine sub_p7 ?_ | refine sub_p8 ?_ | refine sub_p9 ?_ | refine sub_p10 ?_ | refine sub_p11 ?_ | refine sub_p12 ?_ | refine sub_p13 ?_ | refine sub_p14 ?_ | refine sub_p15 ?_ | refine sub_drop ?_))
theorem copy5 (h : St o w (blk gp 39 p.cells :: blk gx 129 x.cells :: R)) : CallV Tryz.prog Z 102 #[.pointer (some ⟨gp, 0, none⟩), .pointer (some ⟨gx, 0, none⟩)] w fun r w' => St o w' (blk gp 39 p.cells :: blk gx 129 ({ x with se := p.se } : Rs).cells :: R) := by
  refine f102.calls ?_
  unfold f102.sh
  (try simp only [fa_129_3, Nat.zero_add, fa_39_12])
  refine r_load one2 (h.at m0 31 rfl) ?_
  skip
  refine r_store h.swap one2 (by show 5 < 14; omega) rfl fun w1 hS => ?_
  exact hS.swap
theorem keep5 {kk : Value → World → Prop} (hK : K ≤ 14) (h : St o w (blk g2 3 [.int .i64 (nmP K)] :: blk gp 39 p.cells :: blk gx 129 x.cells :: R)) (hk : ∀ r w', St o w' (blk g2 3 [.int .i64 (nmP K)] :: blk gp 39 p.cells :: blk gx 129 ({ x with se := if hasF K 11 then x.se else p.se } : Rs).cells :: R) → kk r w') : runX Tryz.prog Z (callVal (.func (.func 98) #[] #[.pointer (some ⟨g2, 0, none⟩)]) #[.int .i64 2048, .func (.func 102) #[] #[.pointer (some ⟨gp, 0, none⟩), .pointer (some ⟨gx, 0, none⟩)]]) w kk := by
  refine r_callVal en98 (l1 := []) (l2 := [_, _]) (l3 := [_]) rfl rfl rfl ?_
  refine CallV.mono ?_ hk
  clear hk
  refine f98.calls ?_
  unfold f98.sh
  refine r_load one3 (h.at m0 0 rfl) ?_
  obtain ⟨v, hv, hv0, _⟩ := andB K 11 hK (by omega) 2048 rfl
  refine r1 (hv _ _) ?_
  refine r1 (run_eql_int _ _ _ _ _ _ _ _) ?_
  rw [hv0]
  cases hh : hasF K 11 with
  | true =>
    (try simp only [Bool.not_true, condF])
    simpa only [hh, if_true] using h
  | false =>
    (try simp only [Bool.not_false, condT])
    refine r_callVal en102 (l1 := []) (l2 := []) (l3 := [_, _]) rfl rfl rfl ?_
    refine (copy5 Z (h.put 2)).mono fun r w1 hS => ?_
    simp only [if_neg Bool.false_ne_true]
    (refine Sh.St.sub ?_ (hS); repeat (first | with_reducible exact sub_refl | with_reducible exact sub_nil | with_reducible refine sub_p0 ?_ | with_reducible refine sub_p1 ?_ | with_reducible refine sub_p2 ?_ | with_reducible refine sub_p3 ?_ | with_reducible refine sub_p4 ?_ | with_reducible refine sub_p5 ?_ | with_reducible refine sub_p6 ?_ | with_reducible refine sub_p7 ?_ | with_reducible refine sub_p8 ?_ | with_reducible refine sub_p9 ?_ | with_reducible refine sub_p10 ?_ | with_reducible refine sub_p11 ?_ | with_reducible refine sub_p12 ?_ | with_reducible refine sub_p13 ?_ | with_reducible refine sub_p14 ?_ | with_reducible refine sub_p15 ?_ | exact sub_refl | refine sub_p0 ?_ | refine sub_p1 ?_ | refine sub_p2 ?_ | refine sub_p3 ?_ | refine sub_p4 ?_ | refine sub_p5 ?_ | refine sub_p6 ?_ | refine sub_p7 ?_ | refine sub_p8 ?_ | refine sub_p9 ?_ | refine sub_p10 ?_ | refine sub_p11 ?_ | refine sub_p12 ?_ | refine sub_p13 ?_ | refine sub_p14 ?_ | refine sub_p15 ?_ | refine sub_drop ?_))
theorem copy6 (h : St o w (blk gp 39 p.cells :: blk gx 129 x.cells :: R)) : CallV Tryz.prog Z 103 #[.pointer (some ⟨gp, 0, none⟩), .pointer (some ⟨gx, 0, none⟩)] w fun r w' => St o w' (blk gp 39 p.cells :: blk gx 129 ({ x with ep := p.ep } : Rs).cells :: R) := by
  refine f103.calls ?_
  unfold f103.sh
  (try simp only [fa_129_4, Nat.zero_add, fa_39_4])
  refine r_load one23 (h.at m0 6 rfl) ?_
  skip
  refine r_store h.swap one23 (by show 6 < 14; omega) rfl fun w1 hS => ?_
  exact hS.swap
theorem keep6 {kk : Value → World → Prop} (hK : K ≤ 14) (h : St o w (blk g2 3 [.int .i64 (nmP K)] :: blk gp 39 p.cells :: blk gx 129 x.cells :: R)) (hk : ∀ r w', St o w' (blk g2 3 [.int .i64 (nmP K)] :: blk gp 39 p.cells :: blk gx 129 ({ x with ep := if hasF K 3 then x.ep else p.ep } : Rs).cells :: R) → kk r w') : runX Tryz.prog Z (callVal (.func (.func 98) #[] #[.pointer (some ⟨g2, 0, none⟩)]) #[.int .i64 8, .func (.func 103) #[] #[.pointer (some ⟨gp, 0, none⟩), .pointer (some ⟨gx, 0, none⟩)]]) w kk := by
  refine r_callVal en98 (l1 := []) (l2 := [_, _]) (l3 := [_]) rfl rfl rfl ?_
  refine CallV.mono ?_ hk
  clear hk
  refine f98.calls ?_
  unfold f98.sh
  refine r_load one3 (h.at m0 0 rfl) ?_
  obtain ⟨v, hv, hv0, _⟩ := andB K 3 hK (by omega) 8 rfl
  refine r1 (hv _ _) ?_
  refine r1 (run_eql_int _ _ _ _ _ _ _ _) ?_
  rw [hv0]
  cases hh : hasF K 3 with
  | true =>
    (try simp only [Bool.not_true, condF])
    simpa only [hh, if_true] using h
  | false =>
    (try simp only [Bool.not_false, condT])
    refine r_callVal en103 (l1 := []) (l2 := []) (l3 := [_, _]) rfl rfl rfl ?_
    refine (copy6 Z (h.put 2)).mono fun r w1 hS => ?_
    simp only [if_neg Bool.false_ne_true]
    (refine Sh.St.sub ?_ (hS); repeat (first | with_reducible exact sub_refl | with_reducible exact sub_nil | with_reducible refine sub_p0 ?_ | with_reducible refine sub_p1 ?_ | with_reducible refine sub_p2 ?_ | with_reducible refine sub_p3 ?_ | with_reducible refine sub_p4 ?_ | with_reducible refine sub_p5 ?_ | with_reducible refine sub_p6 ?_ | with_reducible refine sub_p7 ?_ | with_reducible refine sub_p8 ?_ | with_reducible refine sub_p9 ?_ | with_reducible refine sub_p10 ?_ | with_reducible refine sub_p11 ?_ | with_reducible refine sub_p12 ?_ | with_reducible refine sub_p13 ?_ | with_reducible refine sub_p14 ?_ | with_reducible refine sub_p15 ?_ | exact sub_refl | refine sub_p0 ?_ | refine sub_p1 ?_ | refine sub_p2 ?_ | refine sub_p3 ?_ | refine sub_p4 ?_ | refine sub_p5 ?_ | refine sub_p6 ?_ | refine sub_p7 ?_ | refine sub_p8 ?_ | refine sub_p9 ?_ | refine sub_p10 ?_ | refine sub_p11 ?_ | refine sub_p12 ?_ | refine sub_p13 ?_ | refine sub_p14 ?_ | refine sub_p15 ?_ | refine sub_drop ?_))
theorem copy7 (h : St o w (blk gp 39 p.cells :: blk gx 129 x.cells :: R)) : CallV Tryz.prog Z 104 #[.pointer (some ⟨gp, 0, none⟩), .pointer (some ⟨gx, 0, none⟩)] w fun r w' => St o w' (blk gp 39 p.cells :: blk gx 129 ({ x with cu := p.cu } : Rs).cells :: R) := by
  refine f104.calls ?_
  unfold f104.sh
  (try simp only [fa_129_5, Nat.zero_add, fa_39_5])
  refine r_load one23 (h.at m0 7 rfl) ?_
  skip
  refine r_store h.swap one23 (by show 7 < 14; omega) rfl fun w1 hS => ?_
  exact hS.swap
theorem keep7 {kk : Value → World → Prop} (hK : K ≤ 14) (h : St o w (blk g2 3 [.int .i64 (nmP K)] :: blk gp 39 p.cells :: blk gx 129 x.cells :: R)) (hk : ∀ r w', St o w' (blk g2 3 [.int .i64 (nmP K)] :: blk gp 39 p.cells :: blk gx 129 ({ x with cu := if hasF K 4 then x.cu else p.cu } : Rs).cells :: R) → kk r w') : runX Tryz.prog Z (callVal (.func (.func 98) #[] #[.pointer (some ⟨g2, 0, none⟩)]) #[.int .i64 16, .func (.func 104) #[] #[.pointer (some ⟨gp, 0, none⟩), .pointer (some ⟨gx, 0, none⟩)]]) w kk := by
  refine r_callVal en98 (l1 := []) (l2 := [_, _]) (l3 := [_]) rfl rfl rfl ?_
  refine CallV.mono ?_ hk
  clear hk
  refine f98.calls ?_
  unfold f98.sh
  refine r_load one3 (h.at m0 0 rfl) ?_
  obtain ⟨v, hv, hv0, _⟩ := andB K 4 hK (by omega) 16 rfl
  refine r1 (hv _ _) ?_
  refine r1 (run_eql_int _ _ _ _ _ _ _ _) ?_
  rw [hv0]
  cases hh : hasF K 4 with
  | true =>
    (try simp only [Bool.not_true, condF])
    simpa only [hh, if_true] using h
  | false =>
    (try simp only [Bool.not_false, condT])
    refine r_callVal en104 (l1 := []) (l2 := []) (l3 := [_, _]) rfl rfl rfl ?_
    refine (copy7 Z (h.put 2)).mono fun r w1 hS => ?_
    simp only [if_neg Bool.false_ne_true]
    (refine Sh.St.sub ?_ (hS); repeat (first | with_reducible exact sub_refl | with_reducible exact sub_nil | with_reducible refine sub_p0 ?_ | with_reducible refine sub_p1 ?_ | with_reducible refine sub_p2 ?_ | with_reducible refine sub_p3 ?_ | with_reducible refine sub_p4 ?_ | with_reducible refine sub_p5 ?_ | with_reducible refine sub_p6 ?_ | with_reducible refine sub_p7 ?_ | with_reducible refine sub_p8 ?_ | with_reducible refine sub_p9 ?_ | with_reducible refine sub_p10 ?_ | with_reducible refine sub_p11 ?_ | with_reducible refine sub_p12 ?_ | with_reducible refine sub_p13 ?_ | with_reducible refine sub_p14 ?_ | with_reducible refine sub_p15 ?_ | exact sub_refl | refine sub_p0 ?_ | refine sub_p1 ?_ | refine sub_p2 ?_ | refine sub_p3 ?_ | refine sub_p4 ?_ | refine sub_p5 ?_ | refine sub_p6 ?_ | refine sub_p7 ?_ | refine sub_p8 ?_ | refine sub_p9 ?_ | refine sub_p10 ?_ | refine sub_p11 ?_ | refine sub_p12 ?_ | refine sub_p13 ?_ | refine sub_p14 ?_ | refine sub_p15 ?_ | refine sub_drop ?_))
theorem copy8 (h : St o w (blk gp 39 p.cells :: blk gx 129 x.cells :: R)) : CallV Tryz.prog Z 105 #[.pointer (some ⟨gp, 0, none⟩), .pointer (some ⟨gx, 0, none⟩)] w fun r w' => St o w' (blk gp 39 p.cells :: blk gx 129 ({ x with ze := p.ze, zn := p.zn } : Rs).cells :: R) := by
  refine f105.calls ?_
  unfold f105.sh
  (try simp only [fa_129_6, Nat.zero_add, fa_39_6])
  refine r_loadN ag27 (xs := zx p.ze p.zn) rfl (h.cells_at m0 8 (pk_two ⟨rfl, rfl⟩)) ?_
  skip
  refine r_storeN h.swap ag27 (xs := zx p.ze p.zn) rfl (by show 10 ≤ 14; omega) (zx_ones _ _) fun w1 hS => ?_
  exact hS.swap
theorem keep8 {kk : Value → World → Prop} (hK : K ≤ 14) (h : St o w (blk g2 3 [.int .i64 (nmP K)] :: blk gp 39 p.cells :: blk gx 129 x.cells :: R)) (hk : ∀ r w', St o w' (blk g2 3 [.int .i64 (nmP K)] :: blk gp 39 p.cells :: blk gx 129 ({ x with ze := if hasF K 5 then x.ze else p.ze, zn := if hasF K 5 then x.zn else p.zn } : Rs).cells :: R) → kk r w') : runX Tryz.prog Z (callVal (.func (.func 98) #[] #[.pointer (some ⟨g2, 0, none⟩)]) #[.int .i64 32, .func (.func 105) #[] #[.pointer (some ⟨gp, 0, none⟩), .pointer (some ⟨gx, 0, none⟩)]]) w kk := by
  refine r_callVal en98 (l1 := []) (l2 := [_, _]) (l3 := [_]) rfl rfl rfl ?_
  refine CallV.mono ?_ hk
  clear hk
  refine f98.calls ?_
  unfold f98.sh
  refine r_load one3 (h.at m0 0 rfl) ?_
  obtain ⟨v, hv, hv0, _⟩ := andB K 5 hK (by omega) 32 rfl
  refine r1 (hv _ _) ?_
  refine r1 (run_eql_int _ _ _ _ _ _ _ _) ?_
  rw [hv0]
  cases hh : hasF K 5 with
  | true =>
    (try simp only [Bool.not_true, condF])
    simpa only [hh, if_true] using h
  | false =>
    (try simp only [Bool.not_false, condT])
    refine r_callVal en105 (l1 := []) (l2 := []) (l3 := [_, _]) rfl rfl rfl ?_
    refine (copy8 Z (h.put 2)).mono fun r w1 hS => ?_
    simp only [if_neg Bool.false_ne_true]
    (refine Sh.St.sub ?_ (hS); repeat (first | with_reducible exact sub_refl | with_reducible exact sub_nil | with_reducible refine sub_p0 ?_ | with_reducible refine sub_p1 ?_ | with_reducible refine sub_p2 ?_ | with_reducible refine sub_p3 ?_ | with_reducible refine sub_p4 ?_ | with_reducible refine sub_p5 ?_ | with_reducible refine sub_p6 ?_ | with_reducible refine sub_p7 ?_ | with_reducible refine sub_p8 ?_ | with_reducible refine sub_p9 ?_ | with_reducible refine sub_p10 ?_ | with_reducible refine sub_p11 ?_ | with_reducible refine sub_p12 ?_ | with_reducible refine sub_p13 ?_ | with_reducible refine sub_p14 ?_ | with_reducible refine sub_p15 ?_ | exact sub_refl | refine sub_p0 ?_ | refine sub_p1 ?_ | refine sub_p2 ?_ | refine sub_p3 ?_ | refine sub_p4 ?_ | refine sub_p5 ?_ | refine sub_p6 ?_ | refine sub_p7 ?_ | refine sub_p8 ?_ | refine sub_p9 ?_ | refine sub_p10 ?_ | refine sub_p11 ?_ | refine sub_p12 ?_ | refine sub_p13 ?_ | refine sub_p14 ?_ | refine sub_p15 ?_ | refine sub_drop ?_))
theorem copy9 (h : St o w (blk gp 39 p.cells :: blk gx 129 x.cells :: R)) : CallV Tryz.prog Z 106 #[.pointer (some ⟨gp, 0, none⟩), .pointer (some ⟨gx, 0, none⟩)] w fun r w' => St o w' (blk gp 39 p.cells :: blk gx 129 ({ x with ve := p.ve, vn := p.vn } : Rs).cells :: R) := by
  refine f106.calls ?_
  unfold f106.sh
  (try simp only [fa_129_7, Nat.zero_add, fa_39_7])
  refine r_loadN ag27 (xs := zx p.ve p.vn) rfl (h.cells_at m0 10 (pk_two ⟨rfl, rfl⟩)) ?_
  skip
  refine r_storeN h.swap ag27 (xs := zx p.ve p.vn) rfl (by show 12 ≤ 14; omega) (zx_ones _ _) fun w1 hS => ?_
  exact hS.swap
theorem keep9 {kk : Value → World → Prop} (hK : K ≤ 14) (h : St o w (blk g2 3 [.int .i64 (nmP K)] :: blk gp 39 p.cells :: blk gx 129 x.cells :: R)) (hk : ∀ r w', St o w' (blk g2 3 [.int .i64 (nmP K)] :: blk gp 39 p.cells :: blk gx 129 ({ x with ve := if hasF K 6 then x.ve else p.ve, vn := if hasF K 6 then x.vn else p.vn } : Rs).cells :: R) → kk r w') : runX Tryz.prog Z (callVal (.func (.func 98) #[] #[.pointer (some ⟨g2, 0, none⟩)]) #[.int .i64 64, .func (.func 106) #[] #[.pointer (some ⟨gp, 0, none⟩), .pointer (some ⟨gx, 0, none⟩)]]) w kk := by
  refine r_callVal en98 (l1 := []) (l2 := [_, _]) (l3 := [_]) rfl rfl rfl ?_
  refine CallV.mono ?_ hk
  clear hk
  refine f98.calls ?_
  unfold f98.sh
  refine r_load one3 (h.at m0 0 rfl) ?_
  obtain ⟨v, hv, hv0, _⟩ := andB K 6 hK (by omega) 64 rfl
  refine r1 (hv _ _) ?_
  refine r1 (run_eql_int _ _ _ _ _ _ _ _) ?_
  rw [hv0]
  cases hh : hasF K 6 with
  | true =>
    (try simp only [Bool.not_true, condF])
    simpa only [hh, if_true] using h
  | false =>
    (try simp only [Bool.not_false, condT])
    refine r_callVal en106 (l1 := []) (l2 := []) (l3 := [_, _]) rfl rfl rfl ?_
    refine (copy9 Z (h.put 2)).mono fun r w1 hS => ?_
    simp only [if_neg Bool.false_ne_true]
    (refine Sh.St.sub ?_ (hS); repeat (first | with_reducible exact sub_refl | with_reducible exact sub_nil | with_reducible refine sub_p0 ?_ | with_reducible refine sub_p1 ?_ | with_reducible refine sub_p2 ?_ | with_reducible refine sub_p3 ?_ | with_reducible refine sub_p4 ?_ | with_reducible refine sub_p5 ?_ | with_reducible refine sub_p6 ?_ | with_reducible refine sub_p7 ?_ | with_reducible refine sub_p8 ?_ | with_reducible refine sub_p9 ?_ | with_reducible refine sub_p10 ?_ | with_reducible refine sub_p11 ?_ | with_reducible refine sub_p12 ?_ | with_reducible refine sub_p13 ?_ | with_reducible refine sub_p14 ?_ | with_reducible refine sub_p15 ?_ | exact sub_refl | refine sub_p0 ?_ | refine sub_p1 ?_ | refine sub_p2 ?_ | refine sub_p3 ?_ | refine sub_p4 ?_ | refine sub_p5 ?_ | refine sub_p6 ?_ | refine sub_p7 ?_ | refine sub_p8 ?_ | refine sub_p9 ?_ | refine sub_p10 ?_ | refine sub_p11 ?_ | refine sub_p12 ?_ | refine sub_p13 ?_ | refine sub_p14 ?_ | refine sub_p15 ?_ | refine sub_drop ?_))
theorem copy10 (h : St o w (blk gp 39 p.cells :: blk gx 129 x.cells :: R)) : CallV Tryz.prog Z 107 #[.pointer (some ⟨gp, 0, none⟩), .pointer (some ⟨gx, 0, none⟩)] w fun r w' => St o w' (blk gp 39 p.cells :: blk gx 129 ({ x with co := p.co } : Rs).cells :: R) := by
  refine f107.calls ?_
  unfold f107.sh
  (try simp only [fa_129_8, Nat.zero_add, fa_39_8])
  refine r_load one4 (h.at m0 12 rfl) ?_
  skip
  refine r_store h.swap one4 (by show 12 < 14; omega) rfl fun w1 hS => ?_
  exact hS.swap
theorem keep10 {kk : Value → World → Prop} (hK : K ≤ 14) (h : St o w (blk g2 3 [.int .i64 (nmP K)] :: blk gp 39 p.cells :: blk gx 129 x.cells :: R)) (hk : ∀ r w', St o w' (blk g2 3 [.int .i64 (nmP K)] :: blk gp 39 p.cells :: blk gx 129 ({ x with co := if hasF K 7 then x.co else p.co } : Rs).cells :: R) → kk r w') : runX Tryz.prog Z (callVal (.func (.func 98) #[] #[.pointer (some ⟨g2, 0, none⟩)]) #[.int .i64 128, .func (.func 107) #[] #[.pointer (some ⟨gp, 0, none⟩), .pointer (some ⟨gx, 0, none⟩)]]) w kk := by
  refine r_callVal en98 (l1 := []) (l2 := [_, _]) (l3 := [_]) rfl rfl rfl ?_
  refine CallV.mono ?_ hk
  clear hk
  refine f98.calls ?_
  unfold f98.sh
  refine r_load one3 (h.at m0 0 rfl) ?_
  obtain ⟨v, hv, hv0, _⟩ := andB K 7 hK (by omega) 128 rfl
  refine r1 (hv _ _) ?_
  refine r1 (run_eql_int _ _ _ _ _ _ _ _) ?_
  rw [hv0]
  cases hh : hasF K 7 with
  | true =>
    (try simp only [Bool.not_true, condF])
    simpa only [hh, if_true] using h
  | false =>
    (try simp only [Bool.not_false, condT])
    refine r_callVal en107 (l1 := []) (l2 := []) (l3 := [_, _]) rfl rfl rfl ?_
    refine (copy10 Z (h.put 2)).mono fun r w1 hS => ?_
    simp only [if_neg Bool.false_ne_true]
    (refine Sh.St.sub ?_ (hS); repeat (first | with_reducible exact sub_refl | with_reducible exact sub_nil | with_reducible refine sub_p0 ?_ | with_reducible refine sub_p1 ?_ | with_reducible refine sub_p2 ?_ | with_reducible refine sub_p3 ?_ | with_reducible refine sub_p4 ?_ | with_reducible refine sub_p5 ?_ | with_reducible refine sub_p6 ?_ | with_reducible refine sub_p7 ?_ | with_reducible refine sub_p8 ?_ | with_reducible refine sub_p9 ?_ | with_reducible refine sub_p10 ?_ | with_reducible refine sub_p11 ?_ | with_reducible refine sub_p12 ?_ | with_reducible refine sub_p13 ?_ | with_reducible refine sub_p14 ?_ | with_reducible refine sub_p15 ?_ | exact sub_refl | refine sub_p0 ?_ | refine sub_p1 ?_ | refine sub_p2 ?_ | refine sub_p3 ?_ | refine sub_p4 ?_ | refine sub_p5 ?_ | refine sub_p6 ?_ | refine sub_p7 ?_ | refine sub_p8 ?_ | refine sub_p9 ?_ | refine sub_p10 ?_ | refine sub_p11 ?_ | refine sub_p12 ?_ | refine sub_p13 ?_ | refine sub_p14 ?_ | refine sub_p15 ?_ | refine sub_drop ?_))
theorem copy11 (h : St o w (blk gp 39 p.cells :: blk gx 129 x.cells :: R)) : CallV Tryz.prog Z 108 #[.pointer (some ⟨gp, 0, none⟩), .pointer (some ⟨gx, 0, none⟩)] w fun r w' => St o w' (blk gp 39 p.cells :: blk gx 129 ({ x with fi := p.fi } : Rs).cells :: R) := by
  refine f108.calls ?_
  unfold f108.sh
  (try simp only [fa_129_9, Nat.zero_add, fa_39_9])
  refine r_load one4 (h.at m0 13 rfl) ?_
  skip
  refine r_store h.swap one4 (by show 13 < 14; omega) rfl fun w1 hS => ?_
  exact hS.swap
theorem keep11 {kk : Value → World → Prop} (hK : K ≤ 14) (h : St o w (blk g2 3 [.int .i64 (nmP K)] :: blk gp 39 p.cells :: blk gx 129 x.cells :: R)) (hk : ∀ r w', St o w' (blk g2 3 [.int .i64 (nmP K)] :: blk gp 39 p.cells :: blk gx 129 ({ x with fi := if hasF K 8 then x.fi else p.fi } : Rs).cells :: R) → kk r w') : runX Tryz.prog Z (callVal (.func (.func 98) #[] #[.pointer (some ⟨g2, 0, none⟩)]) #[.int .i64 256, .func (.func 108) #[] #[.pointer (some ⟨gp, 0, none⟩), .pointer (some ⟨gx, 0, none⟩)]]) w kk := by
  refine r_callVal en98 (l1 := []) (l2 := [_, _]) (l3 := [_]) rfl rfl rfl ?_
  refine CallV.mono ?_ hk
  clear hk
  refine f98.calls ?_
  unfold f98.sh
  refine r_load one3 (h.at m0 0 rfl) ?_
  obtain ⟨v, hv, hv0, _⟩ := andB K 8 hK (by omega) 256 rfl
  refine r1 (hv _ _) ?_
  refine r1 (run_eql_int _ _ _ _ _ _ _ _) ?_
  rw [hv0]
  cases hh : hasF K 8 with
  | true =>
    (try simp only [Bool.not_true, condF])
    simpa only [hh, if_true] using h
  | false =>
    (try simp only [Bool.not_false, condT])
    refine r_callVal en108 (l1 := []) (l2 := []) (l3 := [_, _]) rfl rfl rfl ?_
    refine (copy11 Z (h.put 2)).mono fun r w1 hS => ?_
    simp only [if_neg Bool.false_ne_true]
    (refine Sh.St.sub ?_ (hS); repeat (first | with_reducible exact sub_refl | with_reducible exact sub_nil | with_reducible refine sub_p0 ?_ | with_reducible refine sub_p1 ?_ | with_reducible refine sub_p2 ?_ | with_reducible refine sub_p3 ?_ | with_reducible refine sub_p4 ?_ | with_reducible refine sub_p5 ?_ | with_reducible refine sub_p6 ?_ | with_reducible refine sub_p7 ?_ | with_reducible refine sub_p8 ?_ | with_reducible refine sub_p9 ?_ | with_reducible refine sub_p10 ?_ | with_reducible refine sub_p11 ?_ | with_reducible refine sub_p12 ?_ | with_reducible refine sub_p13 ?_ | with_reducible refine sub_p14 ?_ | with_reducible refine sub_p15 ?_ | exact sub_refl | refine sub_p0 ?_ | refine sub_p1 ?_ | refine sub_p2 ?_ | refine sub_p3 ?_ | refine sub_p4 ?_ | refine sub_p5 ?_ | refine sub_p6 ?_ | refine sub_p7 ?_ | refine sub_p8 ?_ | refine sub_p9 ?_ | refine sub_p10 ?_ | refine sub_p11 ?_ | refine sub_p12 ?_ | refine sub_p13 ?_ | refine sub_p14 ?_ | refine sub_p15 ?_ | refine sub_drop ?_))
theorem qz_rd (w : World) : RdQ w qz := .mk _ ⟨rd0 w 1, rd0 w 3, rd0 w 2⟩ (rd0 w 11) (fun x hx => by cases hx)
def rsF (K : Nat) (p : Pk) : Rs := ⟨if hasF K 0 then 0 else p.cb, if hasF K 0 then 0 else p.ct, if hasF K 1 then 0 else p.lb, if hasF K 1 then 0 else p.lt, if hasF K 2 then 0 else p.pl, if hasF K 11 then 0 else p.se, if hasF K 3 then 0 else p.ep, if hasF K 4 then 0 else p.cu, if hasF K 5 then 0 else p.ze, if hasF K 5 then 0 else p.zn, if hasF K 6 then 0 else p.ve, if hasF K 6 then 0 else p.vn, if hasF K 7 then false else p.co, if hasF K 8 then false else p.fi⟩
noncomputable def bareB (K : Nat) (p : Pk) : Bool := ((hasF K 9 || zr p 9) && (hasF K 10 || zr p 10)) && rsZero (rsF K p)
theorem lt12 {i : Nat} (h : i < 12) : i = 0 ∨ i = 1 ∨ i = 2 ∨ i = 3 ∨ i = 4 ∨ i = 5 ∨ i = 6 ∨ i = 7 ∨ i = 8 ∨ i = 9 ∨ i = 10 ∨ i = 11 := by omega
theorem or_two (h : Bool) (a b : Int) : (((if h then 0 else a) == 0) && ((if h then 0 else b) == 0)) = (h || ((a == 0) && (b == 0))) := by cases h <;> simp
theorem or_one (h : Bool) (a : Int) : ((if h then 0 else a) == 0) = (h || (a == 0)) := by cases h <;> simp
theorem or_bool (h a : Bool) : ((if h then false else a) == false) = (h || !a) := by cases h <;> cases a <;> rfl
theorem bareB_iff (K : Nat) (p : Pk) : bareB K p = true ↔ ∀ i, i < 12 → (hasF K i || zr p i) = true := by
  have e : rsZero (rsF K p) = ((hasF K 0 || zr p 0) && ((hasF K 1 || zr p 1) && ((hasF K 2 || zr p 2) && ((hasF K 11 || zr p 11) && ((hasF K 3 || zr p 3) && ((hasF K 4 || zr p 4) && ((hasF K 5 || zr p 5) && ((hasF K 6 || zr p 6) && ((hasF K 7 || zr p 7) && (hasF K 8 || zr p 8)))))))))) := by
    unfold rsZero rsF
    simp only
    rw [or_two (hasF K 0), or_two (hasF K 1), or_one (hasF K 2), or_one (hasF K 11), or_one (hasF K 3), or_one (hasF K 4), or_two (hasF K 5), or_two (hasF K 6), or_bool (hasF K 7), or_bool (hasF K 8)]
    rfl
  rw [bareB, e]
  simp only [Bool.and_eq_true]
  constructor
  · rintro ⟨⟨h9, h10⟩, h0, h1, h2, h11, h3, h4, h5, h6, h7, h8⟩ i hi
    obtain rfl | rfl | rfl | rfl | rfl | rfl | rfl | rfl | rfl | rfl | rfl | rfl := lt12 hi <;> assumption
  · intro h
    exact ⟨⟨h 9 (by omega), h 10 (by omega)⟩, h 0 (by omega), h 1 (by omega), h 2 (by omega), h 11 (by omega), h 3 (by omega), h 4 (by omega), h 5 (by omega), h 6 (by omega), h 7 (by omega), h 8 (by omega)⟩
open Classical in
theorem zr_txn {b : Bool} (hb : b = true ↔ p.t.hd = tz.hd ∧ p.t.q.st = tz.q.st) : zr p 9 = b := by
  have e : zr p 9 = decide (p.t.hd = tz.hd ∧ p.t.q.st = tz.q.st) := by first | rfl | (unfold zr; congr)
  rw [e]
  cases b with
  | true => exact decide_eq_true (hb.1 rfl)
  | false => exact decide_eq_false fun hh => Bool.noConfusion (hb.2 hh)
theorem txnPart {b : Bool} {KK : Value → World → Prop} (hx : Ent o R fun w => RdP w p) (hS : St o w (blk g2 3 [.int .i64 (nmP K)] :: blk g 39 p.cells :: R))
    (h1 : ∀ w, St o w (blk g2 3 [.int .i64 (nmP K)] :: blk g 39 p.cells :: R) → b = false ∨ zr p 9 = true → KK (.bool false) w) (h2 : ∀ w, St o w (blk g2 3 [.int .i64 (nmP K)] :: blk g 39 p.cells :: R) → b = true ∧ zr p 9 = false → KK (.bool true) w) :
    guardW (.bool b) true (fun k => run1 Tryz.prog Z (Instr.fieldAt 39 (.pointer (some ⟨g, 0, none⟩)) 10) w k) (fun t6 w =>
    guardW (.bool b) true (fun k => run1 Tryz.prog Z (Instr.loadAt 37 t6) w k) (fun t7 w =>
    guardW (.bool b) true (fun k => run1 Tryz.prog Z (Instr.build 37 #[]) w k) (fun t8 w =>
    guardW (.bool b) true (fun k => CallV Tryz.prog Z 97 #[t7, t8] w k) (fun t9 w =>
    guardW (.bool b) true (fun k => run1 Tryz.prog Z (Op.unary .not t9) w k) (fun t10 w =>
    run1 Tryz.prog Z (pickV (.bool b) t10 (.bool false)) w fun t11 w => KK t11 w) w) w) w) w) w := by
  cases b with
  | false =>
    (try simp only [fa_39_10, Nat.zero_add, o_pickF, guardW_ft])
    exact h1 w hS (.inl rfl)
  | true =>
    (try simp only [fa_39_10, Nat.zero_add, o_pickT, guardW_true])
    refine r_loadN ag37 (xs := p.t.cells) (Tx.cells_len _) (hS.cells_at m1 14 (pk_tx p)) ?_
    refine r_build (cells := tz.cells.toArray) (by kernel_rfl) ?_
    refine (sameT Z p.t tz (fun w hw => (hx w hw.drop.drop).t) (fun w hw => qz_rd w) hS).mono fun r w3 ⟨⟨b, hr, hb⟩, hS⟩ => ?_
    subst hr
    have hz := zr_txn hb
    cases b with
    | true =>
      (try simp only [o_not, Bool.not_true])
      exact h1 w3 hS (.inr hz)
    | false =>
      (try simp only [o_not, Bool.not_false])
      exact h2 w3 hS ⟨rfl, hz⟩
theorem bareEnd (hK : K ≤ 14) (h9 : (hasF K 9 || zr p 9) = true) (h10 : (hasF K 10 || zr p 10) = true) (hS : St o w (blk g2 3 [.int .i64 (nmP K)] :: blk g 39 p.cells :: R)) :
    run1 Tryz.prog Z (Instr.alloc 129 true (.tuple #[])) w fun t22 w =>
    runX Tryz.prog Z (callVal (.func (.func 98) #[] #[.pointer (some ⟨g2, 0, none⟩)]) #[.int .i64 1, .func (.func 99) #[] #[.pointer (some ⟨g, 0, none⟩), t22]]) w fun _ w =>
    runX Tryz.prog Z (callVal (.func (.func 98) #[] #[.pointer (some ⟨g2, 0, none⟩)]) #[.int .i64 2, .func (.func 100) #[] #[.pointer (some ⟨g, 0, none⟩), t22]]) w fun _ w =>
    runX Tryz.prog Z (callVal (.func (.func 98) #[] #[.pointer (some ⟨g2, 0, none⟩)]) #[.int .i64 4, .func (.func 101) #[] #[.pointer (some ⟨g, 0, none⟩), t22]]) w fun _ w =>
    runX Tryz.prog Z (callVal (.func (.func 98) #[] #[.pointer (some ⟨g2, 0, none⟩)]) #[.int .i64 2048, .func (.func 102) #[] #[.pointer (some ⟨g, 0, none⟩), t22]]) w fun _ w =>
    runX Tryz.prog Z (callVal (.func (.func 98) #[] #[.pointer (some ⟨g2, 0, none⟩)]) #[.int .i64 8, .func (.func 103) #[] #[.pointer (some ⟨g, 0, none⟩), t22]]) w fun _ w =>
    runX Tryz.prog Z (callVal (.func (.func 98) #[] #[.pointer (some ⟨g2, 0, none⟩)]) #[.int .i64 16, .func (.func 104) #[] #[.pointer (some ⟨g, 0, none⟩), t22]]) w fun _ w =>
    runX Tryz.prog Z (callVal (.func (.func 98) #[] #[.pointer (some ⟨g2, 0, none⟩)]) #[.int .i64 32, .func (.func 105) #[] #[.pointer (some ⟨g, 0, none⟩), t22]]) w fun _ w =>
    runX Tryz.prog Z (callVal (.func (.func 98) #[] #[.pointer (some ⟨g2, 0, none⟩)]) #[.int .i64 64, .func (.func 106) #[] #[.pointer (some ⟨g, 0, none⟩), t22]]) w fun _ w =>
    runX Tryz.prog Z (callVal (.func (.func 98) #[] #[.pointer (some ⟨g2, 0, none⟩)]) #[.int .i64 128, .func (.func 107) #[] #[.pointer (some ⟨g, 0, none⟩), t22]]) w fun _ w =>
    runX Tryz.prog Z (callVal (.func (.func 98) #[] #[.pointer (some ⟨g2, 0, none⟩)]) #[.int .i64 256, .func (.func 108) #[] #[.pointer (some ⟨g, 0, none⟩), t22]]) w fun _ w =>
    run1 Tryz.prog Z (Instr.loadAt 129 t22) w fun t44 w =>
    run1 Tryz.prog Z (Instr.build 129 #[]) w fun t45 w =>
    run1 Tryz.prog Z (eqOp .eql 129 false false t44 t45) w fun t46 w => t46 = .bool (bareB K p) ∧ St o w R := by
  refine r_alloc hS ze129 fun gx w5 hS => ?_
  have hS : St o w5 (blk g2 3 [.int .i64 (nmP K)] :: blk g 39 p.cells :: blk gx 129 rs0.cells :: R) := hS.put 2
  skip
  refine keep2 Z hK hS fun _ w6 hS => ?_
  skip
  refine keep3 Z hK hS fun _ w6 hS => ?_
  skip
  refine keep4 Z hK hS fun _ w6 hS => ?_
  skip
  refine keep5 Z hK hS fun _ w6 hS => ?_
  skip
  refine keep6 Z hK hS fun _ w6 hS => ?_
  skip
  refine keep7 Z hK hS fun _ w6 hS => ?_
  skip
  refine keep8 Z hK hS fun _ w6 hS => ?_
  skip
  refine keep9 Z hK hS fun _ w6 hS => ?_
  skip
  refine keep10 Z hK hS fun _ w6 hS => ?_
  skip
  refine keep11 Z hK hS fun _ w6 hS => ?_
  refine r_loadN ag129 (xs := (rsF K p).cells) rfl (hS.cells_at m2 0 (whole_at _)) ?_
  refine r_build (cells := rs0.cells.toArray) (by kernel_rfl) ?_
  refine r1 (eqRest _ _) ?_
  exact ⟨by rw [bareB, h9, h10]; rfl, hS.drop.drop.drop⟩
set_option maxRecDepth 100000 in
theorem bareC (hK : K ≤ 14) (hx : Ent o R fun w => RdP w p) (h : St o w R) : CallV Tryz.prog Z 52 #[.agg p.cells.toArray, .int .i64 (nmP K)] w fun r w' => r = .bool (bareB K p) ∧ St o w' R := by
  refine f52.calls ?_
  unfold f52.sh
  refine r_box _ _ h fun g w1 hS => ?_
  refine r_box _ _ hS fun g2 w2 hS => ?_
  have hS : St o w2 (blk g2 3 [.int .i64 (nmP K)] :: blk g 39 p.cells :: R) := hS
  refine r_load one3 (hS.at m0 0 rfl) ?_
  obtain ⟨v9, hv9, hz9, _⟩ := andB K 9 hK (by omega) 512 rfl
  obtain ⟨v10, hv10, hz10, _⟩ := andB K 10 hK (by omega) 1024 rfl
  refine r1 (hv9 _ _) ?_
  refine r1 (run_eql_int _ _ _ _ _ _ _ _) ?_
  rw [hz9]
  obtain ⟨a, c, e⟩ := (hx _ hS.drop.drop).b.form
  refine txnPart Z hx hS (b := !hasF K 9) (fun w3 hS hh => ?_) fun w3 hS hh => ?_
  rotate_left
  · obtain ⟨h1, h2⟩ := hh
    have h9 : hasF K 9 = false := by simpa using h1
    (try simp only [fa_39_11, Nat.zero_add, o_fn, o_pickT, condT, guardW_tf, guardW_u])
    exact ⟨by rw [bareB, h9, h2]; rfl, hS.drop.drop⟩
  have h9 : (hasF K 9 || zr p 9) = true := by
    rcases hh with hh | hh
    · have : hasF K 9 = true := by simpa using hh
      rw [this]; rfl
    · rw [hh]; simp
  clear hh
  (try simp only [fa_39_11, Nat.zero_add, o_fn, o_pickF, guardW_ff])
  refine r_load one3 (hS.at m0 0 rfl) ?_
  refine r1 (hv10 _ _) ?_
  refine r1 (run_eql_int _ _ _ _ _ _ _ _) ?_
  rw [hz10]
  have hd10 : zr p 10 = decide (p.b.length = 0) := by first | rfl | (unfold zr; congr)
  by_cases h10 : hasF K 10 = true
  · rw [h10]
    have hb10 : (hasF K 10 || zr p 10) = true := by rw [h10]; rfl
    (try simp only [Bool.not_true, o_pickF, condF, guardW_ft])
    exact bareEnd Z hK h9 hb10 hS
  · have h10 : hasF K 10 = false := by simpa using h10
    rw [h10]
    (try simp only [Bool.not_false, o_pickT, guardW_true])
    refine r_load one30 (hS.at m1 30 rfl) ?_
    rw [e]
    by_cases hlen : 0 < (p.b.length : Int)
    · (try simp only [ln_30_3, o_gtr, hlen, decide_true, condT])
      have hz : zr p 10 = false := by rw [hd10]; exact decide_eq_false (by omega)
      exact ⟨by rw [bareB, h9, h10, hz]; rfl, hS.drop.drop⟩
    · (try simp only [ln_30_3, o_gtr, hlen, decide_false, condF])
      have hz : zr p 10 = true := by rw [hd10]; exact decide_eq_true (by omega)
      exact bareEnd Z hK h9 (by rw [hz]; simp) hS
end
end Go.Proofs.YtfafkgbipjhcaaaGreatDoor
