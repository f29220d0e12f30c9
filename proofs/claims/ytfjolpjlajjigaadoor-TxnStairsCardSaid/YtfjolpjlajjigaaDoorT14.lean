/- Write. -/
import Derived.Test.YtfjolpjlajjigaaDoorT13
set_option linter.unusedVariables false
set_option linter.unusedSimpArgs false
namespace Go.Proofs.YtfjolpjlajjigaaDoor
open Go.Sh
def opB (x : Rq) : List UInt8 := flB true x.f
def opsB (q : Rq) : List UInt8 := lsB q.ops.length (q.ops.map opB)
def reqB (q : Rq) : List UInt8 := flB false q.f ++ if bi false q.f 8 then opsB q else []
def txB (t : Tx) : List UInt8 := enc 4 t.e ++ enc 4 t.n ++ enc 1 t.sv ++ enc 4 t.bo ++ enc 8 t.nu ++ reqB t.q
theorem bi8 (f : Fl) (h : 0 ≤ f.kd ∧ f.kd ≤ 5) : bi true f 8 = false := by
  obtain ⟨k, hk⟩ : ∃ k : Nat, f.kd = k := ⟨f.kd.toNat, by omega⟩
  unfold bi
  rw [hk, Int.toNat_natCast]
  obtain rfl | rfl | rfl | rfl | rfl | rfl : k = 0 ∨ k = 1 ∨ k = 2 ∨ k = 3 ∨ k = 4 ∨ k = 5 := by omega
  all_goals rfl
theorem isOp_spec {q : Rq} (h : isOp q = true) : (1 ≤ q.f.kd ∧ q.f.kd ≤ 5) ∧ q.f.ses = 0 ∧ q.f.who.length = 0 ∧ within q.f q.ops.length = true := by
  simp only [isOp, Bool.and_eq_true, decide_eq_true_eq] at h
  exact h
theorem chkQ_spec {q : Rq} (h : chkQ q = true) : (1 ≤ q.f.kd ∧ q.f.kd ≤ 12) ∧ within q.f q.ops.length = true ∧ q.ops.all isOp = true := by
  simp only [chkQ, Bool.and_eq_true, decide_eq_true_eq] at h
  exact h
theorem opB_len {x : Rq} (h : isOp x = true) : (opB x).length ≤ 800 := flB_len true (bnd_of (isOp_spec h).2.2.2).1
theorem opsB_len {q : Rq} (h : q.ops.all isOp = true) (hn : q.ops.length ≤ 8) : (opsB q).length ≤ 6404 := by
  have := lsB_len opB 800 q.ops fun x hx => opB_len (List.all_eq_true.1 h _ hx)
  unfold opsB; omega
section
variable (Z : List PanicEntry → World → Prop) {o w : World} {R As : List HProp} {g : Nat} {l : List UInt8}
theorem putI (q : Rq) (hq : isOp q = true) (hN : Names o) (ho : old o ∈ R) (hl : l.length ≤ 100000) (hx : Ent o R fun w => RdQ w q) (h : St o w (Wr g l :: R)) :
    CallV Tryd.prog Z 49 #[.agg #[.bool true], .pointer (some ⟨g, 0, none⟩), .agg q.cells.toArray] w fun r w' => St o w' (Wr g (l ++ opB q) :: R) := by
  obtain ⟨⟨h1, h2⟩, _, _, h3⟩ := isOp_spec hq
  have h8 := bi8 q.f ⟨by omega, h2⟩
  refine (putG Z true q [] ⟨by omega, by omega⟩ (bnd_of h3).1 hN ho 100000 (by omega) hl hx (fun _ _ _ _ _ _ _ hb => by rw [h8] at hb; cases hb) h).mono fun r w' hS => ?_
  rw [h8] at hS
  simpa [opB] using hS
theorem wOps (q : Rq) (hq : q.ops.all isOp = true) (hn : q.ops.length ≤ 8) (hN : Names o) (ho : old o ∈ R) (hl : l.length ≤ 10000) (hx : Ent o R fun w => RdQ w q) (h : St o w (Wr g l :: R)) :
    CallV Tryd.prog Z 89 #[.pointer (some ⟨g, 0, none⟩), q.vo, .func (.func 49) #[.agg #[.bool true]] #[]] w fun r w' => St o w' (Wr g (l ++ opsB q) :: R) := by
  obtain ⟨a, c, e⟩ := (hx w h.drop).row.form
  rw [e]
  refine f89.calls ?_
  unfold f89.sh
  (try simp only [ln_32_3, eqlf_80, condF, cv_3_21, eqlp_74])
  refine (wInt32 Z _ (by omega) h).mono fun r w1 hS => ?_
  skip
  refine ⟨fun m y w' => ∃ i : Nat, y = .int .i64 i ∧ m + i = q.ops.length ∧ St o w' (Wr g (l ++ enc 4 (IntKind.i32.wrap q.ops.length) ++ ((q.ops.take i).map opB).flatten) :: R), ⟨q.ops.length, 0, rfl, rfl, by simpa using hS⟩, ?_⟩
  clear hS
  rintro m _ w2 ⟨i, rfl, hi, hS⟩ _
  by_cases hlt : (i : Int) < (q.ops.length : Int)
  · have hil : i < q.ops.length := by omega
    have hmem : q.ops[i] ∈ q.ops := List.getElem_mem hil
    have hrow := (hx w2 hS.drop).rowR
    rw [e] at hrow
    obtain ⟨b, p, cs, hp, _, hcv, hc⟩ := hrow.ix el32 .i64 i hil
    subst hcv
    have hop : isOp q.ops[i] = true := List.all_eq_true.1 hq _ hmem
    have hfl := flat_len opB 800 (q.ops.take i) fun x hx => opB_len (List.all_eq_true.1 hq _ (List.mem_of_mem_take hx))
    rw [List.length_take] at hfl
    (try simp only [o_add, o_lss, hlt, decide_true, condT])
    refine r1 (hp _) (r_loadN ag34 (xs := q.ops[i].cells) rfl (fun j u hu => by rw [add_addr]; exact hc j u hu) ?_)
    refine r_alloc hS ze34 fun ge w5 hS => ?_
    have hones := ((hx w5 hS.drop.drop).all _ hmem).ones
    refine r_storeN hS ag34 (xs := q.ops[i].cells) rfl (show 0 + 11 ≤ 11 from Nat.le_refl _) hones fun w6 hS => ?_
    rw [setL_all _ _ (by rfl)] at hS
    refine r_loadN ag34 (xs := q.ops[i].cells) rfl (hS.cells_at m0 0 (whole_at _)) ?_
    refine r_callVal en49 (l1 := [.agg #[.bool true]]) (l2 := [_, _]) (l3 := []) rfl rfl rfl ?_
    refine (putI Z q.ops[i] hop hN (List.mem_cons_of_mem _ ho) (by simp only [List.length_append, enc_length]; omega) (fun w hw => (hx w hw.drop).all _ hmem) hS.swap).mono fun r w7 hS => ?_
    rw [wr_i64 (x := (i : Int) + 1) (by omega) (by omega)]
    refine ⟨m - 1, by omega, i + 1, rfl, by omega, ?_⟩
    rw [flat_take _ _ _ hil, ← List.append_assoc]
    exact hS.swap.drop
  · obtain rfl : i = q.ops.length := by omega
    (try simp only [o_add, o_lss, hlt, decide_false, condF])
    rw [List.take_length, List.append_assoc] at hS
    exact hS
theorem putO (q : Rq) (hq : chkQ q = true) (hN : Names o) (ho : old o ∈ R) (hl : l.length ≤ 1000) (hx : Ent o R fun w => RdQ w q) (h : St o w (Wr g l :: R)) :
    CallV Tryd.prog Z 49 #[.agg #[.bool false], .pointer (some ⟨g, 0, none⟩), .agg q.cells.toArray] w fun r w' => St o w' (Wr g (l ++ reqB q) :: R) := by
  obtain ⟨⟨h1, h2⟩, h3, h4⟩ := chkQ_spec hq
  obtain ⟨hb, hm⟩ := bnd_of h3
  exact putG Z false q (opsB q) ⟨by omega, by omega⟩ hb hN ho 1000 (by omega) hl hx (fun w' R' m ho' hm' hx' hS _ => wOps Z q h4 hm hN ho' (by omega) hx' hS) h
theorem writeC (t : Tx) (hN : Names o) (ho : old o ∈ R) (hx : Ent o R fun w => RdQ w t.q) (h : St o w R) :
    CallV Tryd.prog Z 13 #[.agg t.cells.toArray] w fun r w' => if chkT t then ∃ v, r = .tuple #[v, .int .i64 0] ∧ St o w' (own 5 1 v (txB t).length (cb (txB t)) :: R) else r = .tuple #[.slice none 0 0, .int .i64 40] ∧ St o w' R := by
  refine f13.calls ?_
  unfold f13.sh
  refine r_box _ _ h fun g w1 hS => ?_
  have hS : St o w1 (blk g 36 t.cells :: R) := hS
  have hx' : Ent o (blk g 36 t.cells :: R) fun w => RdQ w t.q := fun w hw => hx w hw.drop
  have ho' : old o ∈ (blk g 36 t.cells :: R) := List.mem_cons_of_mem _ ho
  refine r_loadN ag36 (xs := t.cells) rfl (hS.cells_at m0 0 (whole_at _)) ?_
  refine (chkTx Z t hN ho' hx' hS).mono fun r w2 ⟨hr, hS⟩ => ?_
  subst hr
  cases hc : chkT t with
  | false =>
    refine r1 (run_neq_int _ _ _ _ _ _ _ _) ?_
    refine cond_or (fun _ => ?_) (fun h => by simp at h)
    show if false = true then _ else _
    rw [if_neg (by simp)]
    exact ⟨rfl, hS.drop⟩
  | true =>
    have hcq : chkQ t.q = true := by
      unfold chkT at hc
      simp only [Bool.and_eq_true] at hc
      exact hc.2.2.2
    obtain ⟨⟨h1, h2⟩, h3, h4⟩ := chkQ_spec hcq
    obtain ⟨hb, hm⟩ := bnd_of h3
    have hl1 := flB_len false hb
    have hl2 : (if bi false t.q.f 8 then opsB t.q else []).length ≤ 6404 := ite_len (opsB_len h4 hm)
    refine r1 (run_neq_int _ _ _ _ _ _ _ _) ?_
    refine cond_or (fun h => by simp at h) fun _ => ?_
    refine r_build (cells := #[.slice none 0 0]) (by kernel_rfl) ?_
    refine r_box _ _ hS fun gw w3 hS => ?_
    have hS := Wr.plain hS
    (try simp only [fa_36_2, Nat.zero_add, fa_36_1, fa_29_2, fa_29_1, fa_29_0, Nat.add_zero, fa_36_0, fa_26_1, fa_26_0])
    refine r_load one24 (hS.at m1 0 rfl) ?_
    refine (wUint32 Z t.e (by simp) hS).mono fun r w4 hS => ?_
    refine r_load one24 (hS.at m1 1 rfl) ?_
    refine (wUint32 Z t.n (by simp [enc_length]) hS).mono fun r w4 hS => ?_
    refine r_load one27 (hS.at m1 2 rfl) ?_
    refine (wInt8 Z t.sv (by simp [enc_length]) hS).mono fun r w4 hS => ?_
    refine r_load one24 (hS.at m1 3 rfl) ?_
    refine (wUint32 Z t.bo (by simp [enc_length]) hS).mono fun r w4 hS => ?_
    refine r_load one2 (hS.at m1 4 rfl) ?_
    refine (wInt64 Z t.nu (by simp [enc_length]) hS).mono fun r w4 hS => ?_
    refine r_build (cells := #[.bool false]) (by kernel_rfl) ?_
    refine r_loadN ag34 (xs := t.q.cells) rfl (hS.cells_at m1 5 (fun j v hv => by rw [Nat.add_comm]; exact hv)) ?_
    refine (putO Z t.q hcq hN ho' (by simp [enc_length]) hx' hS).mono fun r w5 hS => ?_
    refine (wBytes Z (by simp only [List.length_append, List.length_nil, enc_length, reqB]; omega) hS).mono fun r w6 hS => ?_
    simp only [List.nil_append] at hS
    rw [if_pos trivial]
    exact ⟨r, rfl, ((hS.pick 1).drop.swap.drop.put 0)⟩
end
end Go.Proofs.YtfjolpjlajjigaaDoor
