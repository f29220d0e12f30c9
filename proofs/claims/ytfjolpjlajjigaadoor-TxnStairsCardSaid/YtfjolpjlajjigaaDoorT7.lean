/- within: is what a request names within its bounds. -/
import Derived.Test.YtfjolpjlajjigaaDoorT6
set_option linter.unusedVariables false
set_option linter.unusedSimpArgs false
namespace Go.Proofs.YtfjolpjlajjigaaDoor
open Go.Sh
def bt (f : Fl) (i : Nat) : Bool := (nm f.kd.toNat).testBit i
def wg1 (f : Fl) : Bool := (!bt f 0 && !decide (f.path = [])) || ((!bt f 1 && decide (0 < f.data.length)) || ((!bt f 2 && decide (0 < f.acl.length)) || (!bt f 3 && !decide (f.ver = 0))))
def wg2 (f : Fl) (m : Nat) : Bool := (!bt f 4 && (f.eph || f.seq)) || ((!bt f 5 && !decide (f.ses = 0)) || ((!bt f 6 && !decide (f.tmo = 0)) || ((!bt f 7 && decide (0 < f.who.length)) || (!bt f 8 && decide (0 < m)))))
def wg3 (f : Fl) (m : Nat) : Bool := decide (64 < f.path.length) || (decide (96 < f.data.length) || (decide (4 < f.acl.length) || (decide (4 < f.who.length) || decide (8 < m))))
def wg4 (f : Fl) (m : Nat) : Bool := decide (f.ses < 0) || ((decide (f.kd = 8) && decide (f.ses = 0)) || ((bt f 6 && (decide (f.tmo < 1) || decide (1000 < f.tmo))) || (bt f 8 && decide (m = 0))))
def within (f : Fl) (m : Nat) : Bool := !wg1 f && (!wg2 f m && (!wg3 f m && (!wg4 f m && (f.acl.all (fun x => idMay x.who) && f.who.all idMay))))
theorem cond_or {c : Bool} {A B : Prop} (hA : c = true → A) (hB : c = false → B) : CondV (.bool c) A B := by rw [cond_bool]; exact ⟨hA, hB⟩
theorem via1 {c : Bool} {T G : Prop} (h : (c = false → T) → G) (t : c = false → T) : G := h t
theorem beq_dec (x y : Int) : (x == y) = decide (x = y) := rfl
theorem bne_dec (x y : Int) : (x != y) = !decide (x = y) := rfl
theorem nat_gt0 (n k : Nat) : decide ((k : Int) < (n : Int)) = decide (k < n) := by
  congr 1
  exact propext ⟨fun h => by omega, fun h => by omega⟩
section
variable (Z : List PanicEntry → World → Prop) {o w : World} {R As : List HProp}
/-- One condition of a chain: what isn't named, held against zero. -/
theorem chk1 {g gn : Nat} {xs : List Value} {b : Int} {ty fld : Nat} {op : Value → Sem Value} {K : Value → World → Prop} (n i : Nat) (v : Value) (c : Bool) (hn : n < 512) (hi : i ≤ 8) (hb : b = ((2 ^ i : Nat) : Int)) (hS : St o w As) (hm : blk gn 85 [.int .u64 n] ∈ As) (hr : blk g 34 xs ∈ As)
    (h1 : oneT Tryd.prog ty = true) (hx : xs[fld]? = some v) (hop : ∀ w, (op v).run Tryd.prog w = .ok (.bool c) w) (hk : K (.bool (!n.testBit i && c)) w) :
    runX Tryd.prog Z (callVal (.func (.func 104) #[] #[.pointer (some ⟨gn, 0, none⟩)]) #[.int .u64 b]) w fun t1 w => run1 Tryd.prog Z (Op.unary .not t1) w fun u w =>
      guardW u true (fun k => k (.pointer (some ⟨g, fld, none⟩)) w) (fun a w =>
      guardW u true (fun k => run1 Tryd.prog Z (Instr.loadAt ty a) w k) (fun x w =>
      guardW u true (fun k => run1 Tryd.prog Z (op x) w k) (fun e w => run1 Tryd.prog Z (pickV u e (.bool false)) w fun r w => K r w) w) w) w := by
  refine hasBit Z n i hn hi b hb hS hm ?_
  cases hbi : n.testBit i with
  | true =>
    rw [hbi] at hk
    (try simp only [o_not, Bool.not_true, o_pickF, guardW_ft])
    exact hk
  | false =>
    rw [hbi] at hk
    (try simp only [o_not, Bool.not_false, o_pickT, guardW_true])
    refine r_load h1 (hS.at hr fld hx) ?_
    refine r1 (hop _) ?_
    skip
    exact hk
theorem chk2 {g gn : Nat} {xs : List Value} {b : Int} {ty fld : Nat} {op : Value → Sem Value} {op2 : Value → Sem Value} {K : Value → World → Prop} (n i : Nat) (v v2 : Value) (c : Bool) (hn : n < 512) (hi : i ≤ 8) (hb : b = ((2 ^ i : Nat) : Int)) (hS : St o w As) (hm : blk gn 85 [.int .u64 n] ∈ As) (hr : blk g 34 xs ∈ As)
    (h1 : oneT Tryd.prog ty = true) (hx : xs[fld]? = some v) (hop : ∀ w, (op v).run Tryd.prog w = .ok v2 w) (hop2 : ∀ w, (op2 v2).run Tryd.prog w = .ok (.bool c) w) (hk : K (.bool (!n.testBit i && c)) w) :
    runX Tryd.prog Z (callVal (.func (.func 104) #[] #[.pointer (some ⟨gn, 0, none⟩)]) #[.int .u64 b]) w fun t1 w => run1 Tryd.prog Z (Op.unary .not t1) w fun u w =>
      guardW u true (fun k => k (.pointer (some ⟨g, fld, none⟩)) w) (fun a w =>
      guardW u true (fun k => run1 Tryd.prog Z (Instr.loadAt ty a) w k) (fun x w =>
      guardW u true (fun k => run1 Tryd.prog Z (op x) w k) (fun y w =>
      guardW u true (fun k => run1 Tryd.prog Z (op2 y) w k) (fun e w => run1 Tryd.prog Z (pickV u e (.bool false)) w fun r w => K r w) w) w) w) w := by
  refine hasBit Z n i hn hi b hb hS hm ?_
  cases hbi : n.testBit i with
  | true =>
    rw [hbi] at hk
    (try simp only [o_not, Bool.not_true, o_pickF, guardW_ft])
    exact hk
  | false =>
    rw [hbi] at hk
    (try simp only [o_not, Bool.not_false, o_pickT, guardW_true])
    refine r_load h1 (hS.at hr fld hx) ?_
    refine r1 (hop _) ?_
    refine r1 (hop2 _) ?_
    skip
    exact hk
theorem rowR_rd {α : Type} {sz n : Nat} {v : Value} {l : List α} {c : α → List Value} (hc : ∀ x, (c x).length = sz) (h : Rd w sz v n (l.map c).flatten) (hn : n = l.length) : RowR w sz (fun x cs => cs = c x) l v := by
  subst hn
  refine ⟨l.map c, by simp, fun i a cs ha hcs => ?_, h⟩
  rw [List.getElem?_map, ha] at hcs
  simp only [Option.map_some, Option.some.injEq] at hcs
  subst hcs
  exact ⟨hc _, rfl⟩
/-- A request but for its Ops, that can be read: its lists. -/
structure RdF (w : World) (f : Fl) (vd va vw : Value) : Prop where
  data : Rd w 1 vd f.data.length (cb f.data)
  acl : Rd w 3 va f.acl.length (f.acl.map enC).flatten
  who : Rd w 2 vw f.who.length (f.who.map idC).flatten
theorem withinC (f : Fl) (vd va vw : Value) (ao : Option Addr) (m co : Nat) (hk : 0 ≤ f.kd ∧ f.kd ≤ 12) (hN : Names o) (ho : old o ∈ R) (hx : Ent o R fun w => RdF w f vd va vw) (h : St o w R) :
    CallV Tryd.prog Z 59 #[.agg (rqC f vd va vw (.slice ao m co)).toArray] w fun r w' => r = .bool (within f m) ∧ St o w' R := by
  obtain ⟨ad, cd, rfl⟩ := (hx w h).data.form
  obtain ⟨aa, ca, rfl⟩ := (hx w h).acl.form
  obtain ⟨aw, cw, rfl⟩ := (hx w h).who.form
  refine f59.calls ?_
  unfold f59.sh
  refine r_box _ _ h fun g w1 hS => ?_
  have hS : St o w1 (blk g 34 (rqC f (.slice ad f.data.length cd) (.slice aa f.acl.length ca) (.slice aw f.who.length cw) (.slice ao m co)) :: R) := hS
  (try simp only [fa_34_9, Nat.zero_add, fa_34_3, fa_34_7, fa_34_8, fa_34_10, fa_34_0, Nat.add_zero, fa_34_2, fa_34_1, fa_34_5, fa_34_6, fa_34_4, o_fn])
  refine r_load one27 (hS.at m0 0 rfl) ?_
  refine r1 (run_nameIx f.kd hk _) ?_
  refine r_load one85 (nameAt hN hS (List.mem_cons_of_mem _ ho) f.kd.toNat (by omega)) ?_
  refine r_alloc hS ze85 fun gn w2 hS => ?_
  have hS : St o w2 (blk gn 85 [.int .u64 0] :: _) := hS
  skip
  refine r_store hS one85 (by simp) rfl fun w3 hS => ?_
  have hS : St o w3 (blk gn 85 [.int .u64 (nm f.kd.toNat)] :: _) := hS
  have hn := nm_lt f.kd.toNat
  skip
  generalize hw : within f m = W
  intro j8 hj8
  have H8 : wg1 f = false → wg2 f m = false → wg3 f m = false → wg4 f m = false → j8 w3 := by
    intro h1 h2 h3 h4
    refine hj8 w3 fun _ => ?_
    clear hj8
    subst hw
    refine r_load one30 (hS.at m1 3 rfl) ?_
    (try simp only [ln_30_3])
    have hle := (hx w3 (hS.drop.drop)).acl.2.1
    simp only [maxLen] at hle
    refine ⟨fun mm y w' => ∃ i : Nat, y = .int .i64 i ∧ mm + i = f.acl.length ∧ (f.acl.take i).all (fun x => idMay x.who) = true ∧ St o w' (blk gn 85 [.int .u64 (nm f.kd.toNat)] :: blk g 34 (rqC f (.slice ad f.data.length cd) (.slice aa f.acl.length ca) (.slice aw f.who.length cw) (.slice ao m co)) :: R), ⟨f.acl.length, 0, rfl, rfl, by simp, hS⟩, ?_⟩
    clear hS
    rintro mm _ w4 ⟨i, rfl, hi, hall, hS⟩ _
    by_cases hlt : (i : Int) < (f.acl.length : Int)
    · have hil : i < f.acl.length := by omega
      have hrow := rowR_rd (c := enC) (fun x => rfl) (hx w4 hS.drop.drop).acl rfl
      obtain ⟨b, q, cs, hp, hcl, hcv, hc⟩ := hrow.ix el30 .i64 i hil
      subst hcv
      (try simp only [o_add, o_lss, hlt, decide_true, condT])
      refine r1 (hp _) (r_loadN ag105 (xs := enC f.acl[i]) rfl (fun j u hu => by rw [add_addr]; exact hc j u hu) ?_)
      refine r_alloc hS ze105 fun ge w5 hS => ?_
      have hS : St o w5 (blk ge 105 [.int .i8 0, .string ByteArray.empty, .string ByteArray.empty] :: _) := hS
      refine r_storeN hS ag105 (xs := enC f.acl[i]) rfl (by simp) (by intro u hu; simp [enC, idC] at hu; rcases hu with rfl | rfl | rfl <;> rfl) fun w6 hS => ?_
      rw [setL_all [.int .i8 0, .string ByteArray.empty, .string ByteArray.empty] (enC f.acl[i]) rfl] at hS
      (try simp only [fa_105_1, Nat.zero_add])
      refine r_loadN ag103 (xs := idC f.acl[i].who) rfl (hS.cells_at m0 1 (fun j v hv => by rw [Nat.add_comm]; exact hv)) ?_
      refine (idMayV Z f.acl[i].who hS).mono fun r w7 ⟨hr, hS⟩ => ?_
      subst hr
      (try simp only [o_not, cond_not])
      cases hmx : idMay f.acl[i].who with
      | false =>
        (try simp only [condF])
        refine ⟨?_, hS.drop.drop.drop⟩
        have : f.acl.all (fun x => idMay x.who) = false := by
          rw [List.all_eq_false]
          exact ⟨f.acl[i], List.getElem_mem hil, by simp [hmx]⟩
        simp [within, this]
      | true =>
        (try simp only [condT])
        rw [wr_i64 (x := (i : Int) + 1) (by omega) (by omega)]
        refine ⟨mm - 1, by omega, i + 1, rfl, by omega, ?_, hS.drop⟩
        rw [List.take_succ_eq_append_getElem hil, List.all_append, hall]
        simp [hmx]
    · obtain rfl : i = f.acl.length := by omega
      rw [List.take_length] at hall
      (try simp only [o_add, o_lss, hlt, decide_false, condF])
      refine r_load one31 (hS.at m1 9 rfl) ?_
      refine (idRow Z _ f.who (fun w hS => rowR_rd (c := idC) (fun x => rfl) (hx w hS.drop.drop).who rfl) hS).mono fun r w5 ⟨hr, hS⟩ => ?_
      subst hr
      (try simp only [o_not])
      refine ⟨?_, hS.drop.drop⟩
      simp [within, h1, h2, h3, h4, hall]
  clear hj8
  have hF : (wg1 f = true ∨ wg2 f m = true ∨ wg3 f m = true ∨ wg4 f m = true) → W = false := by
    subst hw
    intro hh
    unfold within
    rcases hh with hh | hh | hh | hh <;> simp [hh]
  have hend : W = false → (Value.bool false = Value.bool W ∧ St o w3 R) := fun h => ⟨by rw [h], hS.drop.drop⟩
  intro j27 hj27
  have H27 : ∀ b, b = wg1 f → j27 (.bool b) w3 := by
    intro b hb
    refine hj27 _ w3 fun _ => ?_
    clear hj27
    refine cond_or (fun hc => hend (hF (.inl (hb ▸ hc)))) fun hc => ?_
    have h1 : wg1 f = false := hb ▸ hc
    intro j29 hj29
    have H29 : ∀ b, b = wg2 f m → j29 (.bool b) w3 := by
      intro b hb
      refine hj29 _ w3 fun _ => ?_
      clear hj29
      refine cond_or (fun hc => hend (hF (.inr (.inl (hb ▸ hc))))) fun hc => ?_
      have h2 : wg2 f m = false := hb ▸ hc
      intro j31 hj31
      have H31 : ∀ b, b = wg3 f m → j31 (.bool b) w3 := by
        intro b hb
        refine hj31 _ w3 fun _ => ?_
        clear hj31
        refine cond_or (fun hc => hend (hF (.inr (.inr (.inl (hb ▸ hc)))))) fun hc => ?_
        have h3 : wg3 f m = false := hb ▸ hc
        intro j33 hj33
        have H33 : ∀ b, b = wg4 f m → j33 (.bool b) w3 := by
          intro b hb
          refine hj33 _ w3 fun _ => ?_
          clear hj33
          exact cond_or (fun hc => hend (hF (.inr (.inr (.inr (hb ▸ hc)))))) fun hc => H8 h1 h2 h3 (hb ▸ hc)
        clear hj33
        refine r_load one2 (hS.at m1 7 rfl) ?_
        refine r1 (run_lss _ _ _ _ _ _) ?_
        refine cond_or (fun hc => H33 _ (by simp only [wg4, hc, Bool.true_or])) fun hc1 => ?_
        refine r_load one27 (hS.at m1 0 rfl) ?_
        refine r1 (run_eql_int _ _ _ _ _ _ _ _) ?_
        apply via1 (c := (decide (f.kd = 8) && decide (f.ses = 0)))
        · intro post
          by_cases h8 : f.kd = 8
          · have e8 : (f.kd == 8) = true := by simp [h8]
            rw [e8]
            (try simp only [o_pickT, guardW_true])
            refine r_load one2 (hS.at m1 7 rfl) ?_
            refine r1 (run_eql_int _ _ _ _ _ _ _ _) ?_
            refine cond_or (fun hc => H33 _ (by simp only [beq_dec, if_true] at hc ⊢; simp [wg4, hc1, h8, hc])) fun hc2 => ?_
            exact post (by simp only [beq_dec, if_true] at hc2; simp [h8, hc2])
          · have e8 : (f.kd == 8) = false := by simp [h8]
            rw [e8]
            (try simp only [o_pickF, condF, guardW_ft])
            exact post (by simp [h8])
        intro hc2
        apply via1 (c := (bt f 6 && (decide (f.tmo < 1) || decide (1000 < f.tmo))))
        · intro post
          refine hasBit Z _ 6 hn (by omega) _ rfl hS m0 ?_
          rw [show (nm f.kd.toNat).testBit 6 = bt f 6 from rfl]
          cases hb : bt f 6 with
          | false => 
            (try simp only [o_pickF, condF, guardW_ft, guardW_u])
            exact post (by simp [hb])
          | true =>
            (try simp only [o_pickT, guardW_true])
            refine r_load one21 (hS.at m1 8 rfl) ?_
            refine r1 (run_lss _ _ _ _ _ _) ?_
            by_cases hl : f.tmo < 1
            · (try simp only [hl, decide_true, o_pickT, condT, guardW_tf])
              exact H33 _ (by simp [wg4, hb, hl])
            · (try simp only [hl, decide_false, o_pickF, guardW_ff])
              refine r_load one21 (hS.at m1 8 rfl) ?_
              (try simp only [o_gtr, cond_decide])
              exact ⟨fun hc => H33 _ (by simp [wg4, hc1, hc2, hb, hl, hc]), fun hc => post (by simp [hb, hl, hc])⟩
        intro hc3
        refine hasBit Z _ 8 hn (by omega) _ rfl hS m0 ?_
        rw [show (nm f.kd.toNat).testBit 8 = bt f 8 from rfl]
        cases hb : bt f 8 with
        | false =>
          (try simp only [o_pickF, guardW_ft])
          exact H33 _ (by simp only [wg4, hc1, hc2, hc3, hb, Bool.false_or, Bool.false_and])
        | true =>
          (try simp only [o_pickT, guardW_true])
          refine r_load one32 (hS.at m1 10 rfl) ?_
          (try simp only [ln_32_3, o_eql])
          exact H33 _ (by simp only [wg4, hc1, hc2, hc3, hb, Bool.false_or, Bool.true_and, beq_dec]; exact decide_eq_decide.2 (by omega))
      clear hj31
      refine r_load one9 (hS.at m1 1 rfl) ?_
      (try simp only [ln_9_3, str_size, o_gtr, cond_decide])
      refine ⟨fun hc => H31 _ (by simp [wg3, show 64 < f.path.length by omega]; omega), fun hc => ?_⟩
      have hc1 : decide (64 < f.path.length) = false := decide_eq_false (by omega)
      refine r_load one22 (hS.at m1 2 rfl) ?_
      (try simp only [ln_22_3, o_gtr, cond_decide])
      refine ⟨fun hc => H31 _ (by simp [wg3, show 96 < f.data.length by omega]; omega), fun hc => ?_⟩
      have hc2 : decide (96 < f.data.length) = false := decide_eq_false (by omega)
      refine r_load one30 (hS.at m1 3 rfl) ?_
      (try simp only [ln_30_3, o_gtr, cond_decide])
      refine ⟨fun hc => H31 _ (by simp [wg3, show 4 < f.acl.length by omega]; omega), fun hc => ?_⟩
      have hc3 : decide (4 < f.acl.length) = false := decide_eq_false (by omega)
      refine r_load one31 (hS.at m1 9 rfl) ?_
      (try simp only [ln_31_3, o_gtr, cond_decide])
      refine ⟨fun hc => H31 _ (by simp [wg3, show 4 < f.who.length by omega]; omega), fun hc => ?_⟩
      have hc4 : decide (4 < f.who.length) = false := decide_eq_false (by omega)
      refine r_load one32 (hS.at m1 10 rfl) ?_
      (try simp only [ln_32_3, o_gtr])
      exact H31 _ (by simp only [wg3, hc1, hc2, hc3, hc4, Bool.false_or]; exact decide_eq_decide.2 (by omega))
    clear hj29
    apply via1 (c := (!bt f 4 && (f.eph || f.seq)))
    · intro post
      refine hasBit Z _ 4 hn (by omega) _ rfl hS m0 ?_
      rw [show (nm f.kd.toNat).testBit 4 = bt f 4 from rfl]
      cases hb : bt f 4 with
      | true =>
        (try simp only [o_not, Bool.not_true, o_pickF, condF, guardW_ft, guardW_u])
        exact post (by simp [hb])
      | false =>
        (try simp only [o_not, Bool.not_false, o_pickT, guardW_true])
        refine r_load one4 (hS.at m1 5 rfl) ?_
        cases he : f.eph with
        | true =>
          (try simp only [o_pickT, condT, guardW_tf])
          exact H29 _ (by simp [wg2, hb, he])
        | false =>
          (try simp only [o_pickF, guardW_ff])
          refine r_load one4 (hS.at m1 6 rfl) ?_
          skip
          exact cond_or (fun hc => H29 _ (by simp [wg2, hb, he, hc])) fun hc => post (by simp [hb, he, hc])
    intro hc1
    refine chk1 Z (nm f.kd.toNat) 5 (.int .i64 f.ses) (!decide (f.ses = 0)) hn (by omega) rfl hS m0 m1 one2 rfl (fun w => run_neq_int _ _ _ _ _ _ _ _) ?_
    refine cond_or (fun hc => H29 _ (by rw [hc]; simp only [wg2]; rw [show (!bt f 5 && !decide (f.ses = 0)) = true from hc]; simp)) fun hc2 => ?_
    have hc2 : (!bt f 5 && !decide (f.ses = 0)) = false := hc2
    refine chk1 Z (nm f.kd.toNat) 6 (.int .i32 f.tmo) (!decide (f.tmo = 0)) hn (by omega) rfl hS m0 m1 one21 rfl (fun w => run_neq_int _ _ _ _ _ _ _ _) ?_
    refine cond_or (fun hc => H29 _ (by rw [hc]; simp only [wg2]; rw [show (!bt f 6 && !decide (f.tmo = 0)) = true from hc]; simp)) fun hc3 => ?_
    have hc3 : (!bt f 6 && !decide (f.tmo = 0)) = false := hc3
    refine chk2 Z (nm f.kd.toNat) 7 _ _ (decide (0 < f.who.length)) hn (by omega) rfl hS m0 m1 one31 rfl (fun w => run_lenS sl31 _ rfl _ _ _ _ w) (fun w => by rw [run_gtr, show (0 : Int) = ((0 : Nat) : Int) from rfl, nat_gt0]) ?_
    refine cond_or (fun hc => H29 _ (by rw [hc]; simp only [wg2]; rw [show (!bt f 7 && decide (0 < f.who.length)) = true from hc]; simp)) fun hc4 => ?_
    have hc4 : (!bt f 7 && decide (0 < f.who.length)) = false := hc4
    refine chk2 Z (nm f.kd.toNat) 8 _ _ (decide (0 < m)) hn (by omega) rfl hS m0 m1 one32 rfl (fun w => run_lenS sl32 _ rfl _ _ _ _ w) (fun w => by rw [run_gtr, show (0 : Int) = ((0 : Nat) : Int) from rfl, nat_gt0]) ?_
    exact H29 _ (by simp only [wg2, hc1, hc2, hc3, hc4, Bool.false_or]; rfl)
  clear hj27
  refine chk1 Z (nm f.kd.toNat) 0 (.string (str f.path)) (!decide (f.path = [])) hn (by omega) rfl hS m0 m1 one9 rfl (fun w => run_neq_strS _ _ _ f.path [] w) ?_
  refine cond_or (fun hc => H27 _ (by rw [hc]; simp only [wg1]; rw [show (!bt f 0 && !decide (f.path = [])) = true from hc]; simp)) fun hc1 => ?_
  have hc1 : (!bt f 0 && !decide (f.path = [])) = false := hc1
  refine chk2 Z (nm f.kd.toNat) 1 _ _ (decide (0 < f.data.length)) hn (by omega) rfl hS m0 m1 one22 rfl (fun w => run_lenS sl22 _ rfl _ _ _ _ w) (fun w => by rw [run_gtr, show (0 : Int) = ((0 : Nat) : Int) from rfl, nat_gt0]) ?_
  refine cond_or (fun hc => H27 _ (by rw [hc]; simp only [wg1]; rw [show (!bt f 1 && decide (0 < f.data.length)) = true from hc]; simp)) fun hc2 => ?_
  have hc2 : (!bt f 1 && decide (0 < f.data.length)) = false := hc2
  refine chk2 Z (nm f.kd.toNat) 2 _ _ (decide (0 < f.acl.length)) hn (by omega) rfl hS m0 m1 one30 rfl (fun w => run_lenS sl30 _ rfl _ _ _ _ w) (fun w => by rw [run_gtr, show (0 : Int) = ((0 : Nat) : Int) from rfl, nat_gt0]) ?_
  refine cond_or (fun hc => H27 _ (by rw [hc]; simp only [wg1]; rw [show (!bt f 2 && decide (0 < f.acl.length)) = true from hc]; simp)) fun hc3 => ?_
  have hc3 : (!bt f 2 && decide (0 < f.acl.length)) = false := hc3
  refine chk1 Z (nm f.kd.toNat) 3 (.int .i32 f.ver) (!decide (f.ver = 0)) hn (by omega) rfl hS m0 m1 one21 rfl (fun w => run_neq_int _ _ _ _ _ _ _ _) ?_
  exact H27 _ (by simp only [wg1, hc1, hc2, hc3, Bool.false_or]; rfl)
end
end Go.Proofs.YtfjolpjlajjigaaDoor
