/- Requests with their Ops; CheckRequest, Check. -/
import Derived.Test.YtfjolpjlajjigaaDoorT7
set_option linter.unusedVariables false
set_option linter.unusedSimpArgs false
namespace Go.Proofs.YtfjolpjlajjigaaDoor
open Go.Sh
/-- A request as it lies: its flat fields, the slices' values, its Ops. -/
inductive Rq where
  | mk : Fl → Value → Value → Value → Value → List Rq → Rq
namespace Rq
def f : Rq → Fl | mk f _ _ _ _ _ => f
def vd : Rq → Value | mk _ v _ _ _ _ => v
def va : Rq → Value | mk _ _ v _ _ _ => v
def vw : Rq → Value | mk _ _ _ v _ _ => v
def vo : Rq → Value | mk _ _ _ _ v _ => v
def ops : Rq → List Rq | mk _ _ _ _ _ l => l
def cells (q : Rq) : List Value := rqC q.f q.vd q.va q.vw q.vo
theorem cells_len (q : Rq) : q.cells.length = 11 := rfl
theorem lt_ops {q x : Rq} (h : x ∈ q.ops) : SizeOf.sizeOf x < SizeOf.sizeOf q := by
  cases q with
  | mk f a b c d l =>
    have := List.sizeOf_lt_of_mem (show x ∈ l from h)
    simp only [Rq.mk.sizeOf_spec]; omega
theorem ind {C : Rq → Prop} (h : ∀ q, (∀ x ∈ q.ops, C x) → C q) (q : Rq) : C q := h q fun x hx => ind h x
termination_by SizeOf.sizeOf q
decreasing_by exact lt_ops hx
end Rq
/-- It can be read, down to the last of its Ops. -/
inductive RdQ (w : World) : Rq → Prop where
  | mk (q : Rq) : RdF w q.f q.vd q.va q.vw → Rd w 11 q.vo q.ops.length (q.ops.map Rq.cells).flatten → (∀ x ∈ q.ops, RdQ w x) → RdQ w q
theorem RdQ.flat {w : World} {q : Rq} (h : RdQ w q) : RdF w q.f q.vd q.va q.vw := by cases h; assumption
theorem RdQ.row {w : World} {q : Rq} (h : RdQ w q) : Rd w 11 q.vo q.ops.length (q.ops.map Rq.cells).flatten := by cases h; assumption
theorem RdQ.all {w : World} {q : Rq} (h : RdQ w q) : ∀ x ∈ q.ops, RdQ w x := by cases h; assumption
theorem RdQ.rowR {w : World} {q : Rq} (h : RdQ w q) : RowR w 11 (fun x cs => cs = Rq.cells x) q.ops q.vo := rowR_rd Rq.cells_len h.row rfl
def isOp (q : Rq) : Bool := (decide (1 ≤ q.f.kd) && decide (q.f.kd ≤ 5)) && (decide (q.f.ses = 0) && (decide (q.f.who.length = 0) && within q.f q.ops.length))
def chkQ (q : Rq) : Bool := (decide (1 ≤ q.f.kd) && decide (q.f.kd ≤ 12)) && (within q.f q.ops.length && q.ops.all isOp)
theorem bstr (l : List UInt8) : (Value.string (str l)).oneCell' = true := rfl
theorem Rd.one {w : World} {sz n : Nat} {v : Value} {xs : List Value} (h : Rd w sz v n xs) : v.oneCell' = true := by
  obtain ⟨a, c, rfl⟩ := h.form
  rfl
theorem RdQ.ones {w : World} {q : Rq} (h : RdQ w q) : ones q.cells := by
  have h1 := Rd.one h.flat.data
  have h2 := Rd.one h.flat.acl
  have h3 := Rd.one h.flat.who
  have h4 := Rd.one h.row
  intro u hu
  simp only [Rq.cells, rqC, List.mem_cons, List.not_mem_nil, or_false] at hu
  rcases hu with rfl | rfl | rfl | rfl | rfl | rfl | rfl | rfl | rfl | rfl | rfl <;> first | assumption | rfl
section
variable (Z : List PanicEntry → World → Prop) {o w : World} {R As : List HProp}
theorem withinQ (q : Rq) (hk : 0 ≤ q.f.kd ∧ q.f.kd ≤ 12) (hN : Names o) (ho : old o ∈ R) (hx : Ent o R fun w => RdQ w q) (h : St o w R) :
    CallV Tryd.prog Z 59 #[.agg q.cells.toArray] w fun r w' => r = .bool (within q.f q.ops.length) ∧ St o w' R := by
  obtain ⟨a, c, e⟩ := (hx w h).row.form
  have := withinC Z q.f q.vd q.va q.vw a q.ops.length c hk hN ho (fun w hw => (hx w hw).flat) h
  unfold Rq.cells
  rw [e]
  exact this
theorem isOpC (q : Rq) (hN : Names o) (ho : old o ∈ R) (hx : Ent o R fun w => RdQ w q) (h : St o w R) :
    CallV Tryd.prog Z 60 #[.agg q.cells.toArray] w fun r w' => r = .bool (isOp q) ∧ St o w' R := by
  refine f60.calls ?_
  unfold f60.sh
  refine r_box _ _ h fun g w1 hS => ?_
  have hS : St o w1 (blk g 34 q.cells :: R) := hS
  have hx' : Ent o (blk g 34 q.cells :: R) fun w => RdQ w q := fun w hw => hx w hw.drop
  obtain ⟨aw, cw, ew⟩ := (hx' w1 hS).flat.who.form
  unfold isOp
  (try simp only [fa_34_0, Nat.add_zero, fa_34_7, Nat.zero_add, fa_34_9])
  refine r_load one27 (hS.at m0 0 rfl) ?_
  (try simp only [o_geq])
  by_cases h1 : 1 ≤ q.f.kd
  · (try simp only [h1, decide_true, o_pickT, guardW_true])
    refine r_load one27 (hS.at m0 0 rfl) ?_
    (try simp only [o_leq])
    by_cases h2 : q.f.kd ≤ 5
    · (try simp only [h2, decide_true, o_pickT, guardW_true])
      refine r_load one2 (hS.at m0 7 rfl) ?_
      (try simp only [o_eql])
      by_cases h3 : q.f.ses = 0
      · (try simp only [h3, beq_self_eq_true, decide_true, o_pickT, guardW_true])
        refine r_load one31 (hS.at m0 9 (congrArg some ew)) ?_
        (try simp only [ln_31_3, o_eql])
        by_cases h4 : q.f.who.length = 0
        · have e4 : ((q.f.who.length : Int) == 0) = true := by rw [h4]; rfl
          (try simp only [e4, o_pickT, guardW_true])
          refine r_loadN ag34 (xs := q.cells) rfl (hS.cells_at m0 0 (whole_at _)) ?_
          refine (withinQ Z q ⟨by omega, by omega⟩ hN (List.mem_cons_of_mem _ ho) hx' hS).mono fun r w2 ⟨hr, hS⟩ => ?_
          subst hr
          skip
          exact ⟨by simp [h1, h2, h3, h4], hS.drop⟩
        · have e4 : ((q.f.who.length : Int) == 0) = false := beq_eq_false_iff_ne.2 (by omega)
          (try simp only [e4, o_pickF, guardW_ft])
          exact ⟨by simp [h4], hS.drop⟩
      · have e3 : (q.f.ses == 0) = false := by simp [h3]
        (try simp only [e3, o_pickF, guardW_ft])
        exact ⟨by simp [h3], hS.drop⟩
    · (try simp only [h2, decide_false, o_pickF, guardW_ft])
      exact ⟨by simp [h2], hS.drop⟩
  · (try simp only [h1, decide_false, o_pickF, guardW_ft])
    exact ⟨by simp [h1], hS.drop⟩
theorem chkR (q : Rq) (hN : Names o) (ho : old o ∈ R) (hx : Ent o R fun w => RdQ w q) (h : St o w R) :
    CallV Tryd.prog Z 32 #[.agg q.cells.toArray] w fun r w' => r = .int .i64 (if chkQ q then 0 else 40) ∧ St o w' R := by
  refine f32.calls ?_
  unfold f32.sh
  refine r_box _ _ h fun g w1 hS => ?_
  have hS : St o w1 (blk g 34 q.cells :: R) := hS
  have hx' : Ent o (blk g 34 q.cells :: R) fun w => RdQ w q := fun w hw => hx w hw.drop
  obtain ⟨ao, co, eo⟩ := (hx' w1 hS).row.form
  have hle := (hx' w1 hS).row.2.1
  simp only [maxLen] at hle
  (try simp only [fa_34_10, Nat.zero_add, fa_34_0, Nat.add_zero])
  refine r_load one27 (hS.at m0 0 rfl) ?_
  refine (known Z q.f.kd).mono fun r w2 ⟨hr, hw⟩ => ?_
  subst hr; subst hw
  by_cases hk : 1 ≤ q.f.kd ∧ q.f.kd ≤ 12
  · rw [decide_eq_true hk]
    (try simp only [o_not, Bool.not_true, o_pickF, guardW_ff])
    refine r_loadN ag34 (xs := q.cells) rfl (hS.cells_at m0 0 (whole_at _)) ?_
    refine (withinQ Z q ⟨by omega, by omega⟩ hN (List.mem_cons_of_mem _ ho) hx' hS).mono fun r w2 ⟨hr, hS⟩ => ?_
    subst hr
    cases hwi : within q.f q.ops.length with
    | false =>
      (try simp only [o_not, Bool.not_false, condT])
      exact ⟨by simp [chkQ, hwi], hS.drop⟩
    | true =>
      (try simp only [o_not, Bool.not_true, condF])
      refine r_load one32 (hS.at m0 10 (congrArg some eo)) ?_
      (try simp only [ln_32_3])
      refine ⟨fun mm y w' => ∃ i : Nat, y = .int .i64 i ∧ mm + i = q.ops.length ∧ (q.ops.take i).all isOp = true ∧ St o w' (blk g 34 q.cells :: R), ⟨q.ops.length, 0, rfl, rfl, by simp, hS⟩, ?_⟩
      clear hS
      rintro mm _ w4 ⟨i, rfl, hi, hall, hS⟩ _
      by_cases hlt : (i : Int) < (q.ops.length : Int)
      · have hil : i < q.ops.length := by omega
        have hrow := (hx' w4 hS).rowR
        rw [eo] at hrow
        obtain ⟨b, p, cs, hp, hcl, hcv, hc⟩ := hrow.ix el32 .i64 i hil
        subst hcv
        have hmem : q.ops[i] ∈ q.ops := List.getElem_mem hil
        (try simp only [o_add, o_lss, hlt, decide_true, condT])
        refine r1 (hp _) (r_loadN ag34 (xs := q.ops[i].cells) rfl (fun j u hu => by rw [add_addr]; exact hc j u hu) ?_)
        refine r_alloc hS ze34 fun ge w5 hS => ?_
        have hones := ((hx' w5 hS.drop).all _ hmem).ones
        refine r_storeN hS ag34 (xs := q.ops[i].cells) rfl (show 0 + 11 ≤ 11 from Nat.le_refl _) hones fun w6 hS => ?_
        rw [setL_all _ _ (by rfl)] at hS
        refine r_loadN ag34 (xs := q.ops[i].cells) rfl (hS.cells_at m0 0 (whole_at _)) ?_
        refine (isOpC Z q.ops[i] hN (List.mem_cons_of_mem _ (List.mem_cons_of_mem _ ho)) (fun w hw => (hx' w hw.drop).all _ hmem) hS).mono fun r w7 ⟨hr, hS⟩ => ?_
        subst hr
        (try simp only [o_not, cond_not])
        cases hmx : isOp q.ops[i] with
        | false =>
          (try simp only [condF])
          refine ⟨?_, hS.drop.drop⟩
          have : q.ops.all isOp = false := by
            rw [List.all_eq_false]
            exact ⟨q.ops[i], hmem, by simp [hmx]⟩
          simp [chkQ, this]
        | true =>
          (try simp only [condT])
          rw [wr_i64 (x := (i : Int) + 1) (by omega) (by omega)]
          refine ⟨mm - 1, by omega, i + 1, rfl, by omega, ?_, hS.drop⟩
          rw [List.take_succ_eq_append_getElem hil, List.all_append, hall]
          simp [hmx]
      · obtain rfl : i = q.ops.length := by omega
        rw [List.take_length] at hall
        (try simp only [o_add, o_lss, hlt, decide_false, condF])
        exact ⟨by simp [chkQ, hk, hwi, hall], hS.drop⟩
  · rw [decide_eq_false hk]
    (try simp only [o_not, Bool.not_false, o_pickT, condT, guardW_tf])
    refine ⟨?_, hS.drop⟩
    have : (decide (1 ≤ q.f.kd) && decide (q.f.kd ≤ 12)) = false := by
      rw [← Bool.decide_and]; exact decide_eq_false hk
    simp [chkQ, this]
end
end Go.Proofs.YtfjolpjlajjigaaDoor
