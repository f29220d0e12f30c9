/- EqRequest, EqTxn of the document. -/
import Derived.Test.YtfjolpjlajjigaaDoorT9
set_option linter.unusedVariables false
set_option linter.unusedSimpArgs false
namespace Go.Proofs.YtfjolpjlajjigaaDoor
open Go.Sh
/-- A request by itself. -/
inductive Qt where
  | mk : Fl → List Qt → Qt
mutual
def Rq.st : Rq → Qt
  | .mk f _ _ _ _ l => .mk f (sts l)
def sts : List Rq → List Qt
  | [] => []
  | x :: l => x.st :: sts l
end
theorem sts_map (l : List Rq) : sts l = l.map Rq.st := by
  induction l with
  | nil => rfl
  | cons x l ih => rw [sts, ih]; rfl
theorem Rq.st_eq (q : Rq) : q.st = .mk q.f (q.ops.map Rq.st) := by
  cases q with
  | mk f a b c d l => rw [Rq.st, sts_map]; rfl
theorem st_iff (a c : Rq) : a.st = c.st ↔ a.f = c.f ∧ a.ops.map Rq.st = c.ops.map Rq.st := by
  rw [a.st_eq, c.st_eq]
  constructor
  · intro h; injection h with h1 h2; exact ⟨h1, h2⟩
  · rintro ⟨h1, h2⟩; rw [h1, h2]
theorem idd_ext (x y : Idd) : (decide (x.sch = y.sch) && decide (x.nam = y.nam)) = decide (x.sch = y.sch ∧ x.nam = y.nam) := (Bool.decide_and _ _).symm
theorem idd_iff (x y : Idd) : x = y ↔ x.sch = y.sch ∧ x.nam = y.nam := ⟨fun h => by subst h; exact ⟨rfl, rfl⟩, fun h => by cases x; cases y; simp_all⟩
theorem en_iff (x y : En) : x = y ↔ x.perms = y.perms ∧ x.who.sch = y.who.sch ∧ x.who.nam = y.who.nam := ⟨fun h => by subst h; exact ⟨rfl, rfl, rfl⟩, fun h => by cases x; cases y; simp_all [idd_iff]⟩
theorem eqIdIn (x y : Idd) (d : Nat) (w : World) : (Op.equalIn (d + 2) 103 (.agg (idC x).toArray) (.agg (idC y).toArray)).run Tryd.prog w = .ok (decide (x.sch = y.sch ∧ x.nam = y.nam)) w := by
  have hu : Tryd.prog.underlying 103 = some (.struct (Tryd.prog.fieldsOf 103)) := by kernel_rfl
  have hs : Tryd.prog.stoodInHeld 103 = false := by kernel_rfl
  have hk : Tryd.prog.plainKey 9 = true := by kernel_rfl
  have p0 : ∀ (a : Idd) (w : World), (part 9 (idC a).toArray 0).run Tryd.prog w = .ok (.string (str a.sch)) w := fun a w => run_part_plain w hk rfl
  have p1 : ∀ (a : Idd) (w : World), (part 9 (idC a).toArray 1).run Tryd.prog w = .ok (.string (str a.nam)) w := fun a w => run_part_plain w hk rfl
  rw [run_equalIn_agg _ _ _ _ _ hu hs]
  simp [Program.fieldsOf, Tryd.underlying103, Op.eqFields, p0, p1, run_equalIn_string _ _ _ _ _ Tryd.underlying9, str_toList]
  by_cases h1 : x.sch = y.sch <;> by_cases h2 : x.nam = y.nam <;> simp [h1, h2]
theorem neqId (x y : Idd) (w : World) : (eqOp .neq 103 false false (.agg (idC x).toArray) (.agg (idC y).toArray)).run Tryd.prog w = .ok (.bool (!decide (x.sch = y.sch ∧ x.nam = y.nam))) w := by
  have hg : Tryd.prog.eqGuardType Tryd.prog.depth 103 = false := by kernel_rfl
  unfold eqOp
  simp only [Sem.run_bind, run_eqGuard_agg _ _ _ _ _ _ _ hg, Result.andThen_ok, run_neq_struct, eqIdIn x y 9998]
theorem neqEn (x y : En) (w : World) : (eqOp .neq 105 false false (.agg (enC x).toArray) (.agg (enC y).toArray)).run Tryd.prog w = .ok (.bool (!decide (x.perms = y.perms ∧ x.who.sch = y.who.sch ∧ x.who.nam = y.who.nam))) w := by
  have hg : Tryd.prog.eqGuardType Tryd.prog.depth 105 = false := by kernel_rfl
  have hu : Tryd.prog.underlying 105 = some (.struct (Tryd.prog.fieldsOf 105)) := by kernel_rfl
  have hs : Tryd.prog.stoodInHeld 105 = false := by kernel_rfl
  have hk : Tryd.prog.plainKey 27 = true := by kernel_rfl
  have hz : ∀ w, (sizeOf 103).run Tryd.prog w = .ok 2 w := fun w => by kernel_rfl
  have p0 : ∀ (a : En) (w : World), (part 27 (enC a).toArray 0).run Tryd.prog w = .ok (.int .i8 a.perms) w := fun a w => run_part_plain w hk rfl
  have p1 : ∀ (a : En) (w : World), (part 103 (enC a).toArray 1).run Tryd.prog w = .ok (.agg (idC a.who).toArray) w := fun a w => by
    unfold part
    simp only [Sem.run_bind, run_isAgg ag103, Result.andThen_ok, if_true, hz]
    simp [enC, idC]
  unfold eqOp
  simp only [Sem.run_bind, run_eqGuard_agg _ _ _ _ _ _ _ hg, Result.andThen_ok, run_neq_struct, run_equalIn_agg _ _ _ _ _ hu hs]
  simp [Program.fieldsOf, Tryd.underlying105, Op.eqFields, p0, p1, run_equalIn_int _ _ _ _ _ _ _ Tryd.underlying27, eqIdIn]
  by_cases h1 : x.perms = y.perms <;> by_cases h2 : x.who.sch = y.who.sch <;> by_cases h3 : x.who.nam = y.who.nam <;> simp [h1, h2, h3]
theorem eqOr (a b c a' b' c' : Int) (w : World) : (eqOp .eql 29 false false (.agg (orC a b c).toArray) (.agg (orC a' b' c').toArray)).run Tryd.prog w = .ok (.bool (decide (a = a' ∧ b = b' ∧ c = c'))) w := by
  have hg : Tryd.prog.eqGuardType Tryd.prog.depth 29 = false := by kernel_rfl
  have hu : Tryd.prog.underlying 29 = some (.struct (Tryd.prog.fieldsOf 29)) := by kernel_rfl
  have hs : Tryd.prog.stoodInHeld 29 = false := by kernel_rfl
  have k8 : Tryd.prog.plainKey 27 = true := by kernel_rfl
  have k32 : Tryd.prog.plainKey 24 = true := by kernel_rfl
  have k64 : Tryd.prog.plainKey 2 = true := by kernel_rfl
  have p0 : ∀ (a b c : Int) (w : World), (part 27 (orC a b c).toArray 0).run Tryd.prog w = .ok (.int .i8 a) w := fun a b c w => run_part_plain w k8 rfl
  have p1 : ∀ (a b c : Int) (w : World), (part 24 (orC a b c).toArray 1).run Tryd.prog w = .ok (.int .u32 b) w := fun a b c w => run_part_plain w k32 rfl
  have p2 : ∀ (a b c : Int) (w : World), (part 2 (orC a b c).toArray 2).run Tryd.prog w = .ok (.int .i64 c) w := fun a b c w => run_part_plain w k64 rfl
  unfold eqOp
  simp only [Sem.run_bind, run_eqGuard_agg _ _ _ _ _ _ _ hg, Result.andThen_ok, run_eql_struct, run_equalIn_agg _ _ _ _ _ hu hs]
  simp [Program.fieldsOf, Tryd.underlying29, Op.eqFields, p0, p1, p2, run_equalIn_int _ _ _ _ _ _ _ Tryd.underlying27, run_equalIn_int _ _ _ _ _ _ _ Tryd.underlying24, run_equalIn_int _ _ _ _ _ _ _ Tryd.underlying2]
  by_cases h1 : a = a' <;> by_cases h2 : b = b' <;> by_cases h3 : c = c' <;> simp [h1, h2, h3]
section
variable (Z : List PanicEntry → World → Prop) {o w : World} {R As : List HProp}
/-- A loop's two rows are the same so far. -/
theorem take_more {α : Type} {l k : List α} {i : Nat} (h1 : i < l.length) (h2 : i < k.length) (ht : l.take i = k.take i) (he : l[i] = k[i]) : l.take (i + 1) = k.take (i + 1) := by
  rw [List.take_succ_eq_append_getElem h1, List.take_succ_eq_append_getElem h2, ht, he]
theorem eqAcl {x y : Value} {l k : List En} (hx : Rd w 3 x l.length (l.map enC).flatten) (hy : Rd w 3 y k.length (k.map enC).flatten) :
    CallV Tryd.prog Z 97 #[x, y] w fun r w' => (∃ b, r = .bool b ∧ (b = true ↔ l = k)) ∧ Drew w w' := by
  obtain ⟨a, c, rfl⟩ := hx.form
  obtain ⟨b, d, rfl⟩ := hy.form
  have hlx := hx.2.1
  simp only [maxLen] at hlx
  refine f97.calls ?_
  unfold f97.sh
  (try simp only [ln_30_3, o_neq, cond_bne])
  refine ⟨fun hne => ⟨⟨_, rfl, ⟨fun h => (by cases h), fun e => absurd (by rw [e]) hne⟩⟩, Drew.refl _⟩, fun he => ?_⟩
  have he' : l.length = k.length := by omega
  refine ⟨fun m y w' => ∃ i : Nat, y = .int .i64 i ∧ m + i = l.length ∧ l.take i = k.take i ∧ Drew w w', ⟨l.length, 0, rfl, rfl, rfl, Drew.refl _⟩, ?_⟩
  rintro m _ w1 ⟨i, rfl, hi, ht, hd⟩ _
  (try simp only [o_add, o_lss, cond_decide])
  refine ⟨fun hlt => ⟨fun w2 hd2 => ?_⟩, fun hge => ?_⟩
  · have hi1 : i < l.length := by omega
    have hi2 : i < k.length := by omega
    obtain ⟨b1, p, cs, hp, _, hcv, hpc⟩ := (rowR_rd (c := enC) (fun x => rfl) (hx.drew (hd.trans hd2)) rfl).ix el30 .i64 i hi1
    subst hcv
    obtain ⟨b2, q, cs, hq, _, hcv, hqc⟩ := (rowR_rd (c := enC) (fun x => rfl) (hy.drew (hd.trans hd2)) rfl).ix el30 .i64 i hi2
    subst hcv
    refine rp hp (rr_loadN ag105 (xs := enC l[i]) rfl (fun j u hu => by rw [add_addr]; exact hpc j u hu) (rp hq (rr_loadN ag105 (xs := enC k[i]) rfl (fun j u hu => by rw [add_addr]; exact hqc j u hu) ?_)))
    refine rp (fun w => neqEn l[i] k[i] w) ?_
    rw [show (decide (l[i].perms = k[i].perms ∧ l[i].who.sch = k[i].who.sch ∧ l[i].who.nam = k[i].who.nam)) = decide (l[i].perms = k[i].perms ∧ l[i].who.sch = k[i].who.sch ∧ l[i].who.nam = k[i].who.nam) from rfl]
    by_cases hen : l[i].perms = k[i].perms ∧ l[i].who.sch = k[i].who.sch ∧ l[i].who.nam = k[i].who.nam
    · rw [decide_eq_true hen]
      (try simp only [Bool.not_true, condF])
      rw [wr_i64 (x := (i : Int) + 1) (by omega) (by omega)]
      exact ⟨m - 1, by omega, i + 1, rfl, by omega, take_more hi1 hi2 ht ((en_iff _ _).2 hen), hd.trans hd2⟩
    · rw [decide_eq_false hen]
      (try simp only [Bool.not_false, condT])
      exact ⟨⟨_, rfl, ⟨fun h => (by cases h), fun e => absurd ((en_iff _ _).1 (by subst e; rfl)) hen⟩⟩, hd.trans hd2⟩
  · obtain rfl : i = l.length := by omega
    rw [List.take_length, he', List.take_length] at ht
    exact ⟨⟨_, rfl, ⟨fun _ => ht, fun _ => rfl⟩⟩, hd⟩
theorem eqIds {x y : Value} {l k : List Idd} (hx : Rd w 2 x l.length (l.map idC).flatten) (hy : Rd w 2 y k.length (k.map idC).flatten) :
    CallV Tryd.prog Z 98 #[x, y] w fun r w' => (∃ b, r = .bool b ∧ (b = true ↔ l = k)) ∧ Drew w w' := by
  obtain ⟨a, c, rfl⟩ := hx.form
  obtain ⟨b, d, rfl⟩ := hy.form
  have hlx := hx.2.1
  simp only [maxLen] at hlx
  refine f98.calls ?_
  unfold f98.sh
  (try simp only [ln_31_3, o_neq, cond_bne])
  refine ⟨fun hne => ⟨⟨_, rfl, ⟨fun h => (by cases h), fun e => absurd (by rw [e]) hne⟩⟩, Drew.refl _⟩, fun he => ?_⟩
  have he' : l.length = k.length := by omega
  refine ⟨fun m y w' => ∃ i : Nat, y = .int .i64 i ∧ m + i = l.length ∧ l.take i = k.take i ∧ Drew w w', ⟨l.length, 0, rfl, rfl, rfl, Drew.refl _⟩, ?_⟩
  rintro m _ w1 ⟨i, rfl, hi, ht, hd⟩ _
  (try simp only [o_add, o_lss, cond_decide])
  refine ⟨fun hlt => ⟨fun w2 hd2 => ?_⟩, fun hge => ?_⟩
  · have hi1 : i < l.length := by omega
    have hi2 : i < k.length := by omega
    obtain ⟨b1, p, cs, hp, _, hcv, hpc⟩ := (rowR_rd (c := idC) (fun x => rfl) (hx.drew (hd.trans hd2)) rfl).ix el31 .i64 i hi1
    subst hcv
    obtain ⟨b2, q, cs, hq, _, hcv, hqc⟩ := (rowR_rd (c := idC) (fun x => rfl) (hy.drew (hd.trans hd2)) rfl).ix el31 .i64 i hi2
    subst hcv
    refine rp hp (rr_loadN ag103 (xs := idC l[i]) rfl (fun j u hu => by rw [add_addr]; exact hpc j u hu) (rp hq (rr_loadN ag103 (xs := idC k[i]) rfl (fun j u hu => by rw [add_addr]; exact hqc j u hu) ?_)))
    refine rp (fun w => neqId l[i] k[i] w) ?_
    by_cases hen : l[i].sch = k[i].sch ∧ l[i].nam = k[i].nam
    · rw [decide_eq_true hen]
      (try simp only [Bool.not_true, condF])
      rw [wr_i64 (x := (i : Int) + 1) (by omega) (by omega)]
      exact ⟨m - 1, by omega, i + 1, rfl, by omega, take_more hi1 hi2 ht ((idd_iff _ _).2 hen), hd.trans hd2⟩
    · rw [decide_eq_false hen]
      (try simp only [Bool.not_false, condT])
      exact ⟨⟨_, rfl, ⟨fun h => (by cases h), fun e => absurd ((idd_iff _ _).1 (by subst e; rfl)) hen⟩⟩, hd.trans hd2⟩
  · obtain rfl : i = l.length := by omega
    rw [List.take_length, he', List.take_length] at ht
    exact ⟨⟨_, rfl, ⟨fun _ => ht, fun _ => rfl⟩⟩, hd⟩
end
end Go.Proofs.YtfjolpjlajjigaaDoor
