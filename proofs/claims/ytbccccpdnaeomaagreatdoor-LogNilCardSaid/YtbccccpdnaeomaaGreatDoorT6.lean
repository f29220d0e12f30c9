
/- Numbers of zxids. -/
import Derived.Test.YtbccccpdnaeomaaGreatDoorP1
import Derived.Laws.StructEq
import Derived.ChangeKeysEq
import Derived.Lib.AppendIntMem
import Derived.Test.YtbccccpdnaeomaaGreatDoorShIns
set_option linter.unusedVariables false
set_option linter.unusedSimpArgs false
namespace Go.Proofs.YtbccccpdnaeomaaGreatDoor
open Go.Sh
def zx (e n : Int) : List Value := [.int .u32 e, .int .u32 n]
def u32r (n : Int) : Prop := 0 ≤ n ∧ n ≤ 4294967295
theorem zx_ones (e n : Int) : ones (zx e n) := by intro u hu; simp [zx] at hu; rcases hu with rfl | rfl <;> rfl
section
variable (Z : List PanicEntry → World → Prop) {o w : World} {R As : List HProp}
end
end Go.Proofs.YtbccccpdnaeomaaGreatDoor


/- The order of zxids. -/
set_option linter.unusedVariables false
set_option linter.unusedSimpArgs false
namespace Go.Proofs.YtbccccpdnaeomaaGreatDoor
open Go.Sh
def cmpI (a b : Int) : Int := if a < b then -1 else if b < a then 1 else 0
def cmpZ (e n e' n' : Int) : Int := if cmpI e e' = 0 then cmpI n n' else cmpI e e'
section
variable (Z : List PanicEntry → World → Prop) {o w : World} {R As : List HProp}
theorem isNaN (x : Int) : CallV Tryz.prog Z 107 #[.int .u32 x] w fun r w' => r = .bool false ∧ w' = w := by
  refine f107.calls ?_
  unfold f107.sh
  (try simp only [o_neq, bne_self_eq_false])
  exact ⟨trivial, trivial⟩
theorem cmpCompare (a b : Int) : CallV Tryz.prog Z 77 #[.int .u32 a, .int .u32 b] w fun r w' => r = .int .i64 (cmpI a b) ∧ w' = w := by
  refine f77.calls ?_
  unfold f77.sh
  refine (isNaN Z a).mono fun r w1 ⟨hr, hw⟩ => ?_
  subst hr; subst hw
  refine (isNaN Z b).mono fun r w1 ⟨hr, hw⟩ => ?_
  subst hr; subst hw
  (try simp only [condF, o_gtr, cond_decide, o_lss])
  exact ⟨fun h => ⟨by rw [cmpI, if_pos h], trivial⟩, fun h => ⟨fun h2 => ⟨by rw [cmpI, if_neg h, if_pos h2], trivial⟩, fun h2 => ⟨by rw [cmpI, if_neg h, if_neg h2], trivial⟩⟩⟩
theorem cmpOr {v : Value} (a b : Int) (h : St o w (own 3 1 v 2 [.int .i64 a, .int .i64 b] :: R)) : CallV Tryz.prog Z 76 #[v] w fun r w' => r = .int .i64 (if a = 0 then b else a) ∧ w' = w := by
  have hrd := h.own_rd m0
  obtain ⟨va, vc, rfl⟩ := hrd.form
  refine f76.calls ?_
  unfold f76.sh
  (try simp only [ln_80_3])
  refine ⟨fun m y w' => ∃ i : Nat, y = .int .i64 i ∧ m + i = 2 ∧ (1 ≤ i → a = 0) ∧ (2 ≤ i → b = 0) ∧ w' = w, ⟨2, 0, rfl, rfl, by omega, by omega, rfl⟩, ?_⟩
  rintro m _ _ ⟨i, rfl, hi, ha, hb, rfl⟩ _
  by_cases hlt : (i : Int) < ((2 : Nat) : Int)
  · obtain ⟨p, q, hp, hc, _⟩ := hrd.ix el80 .i64 i (by omega)
    obtain ⟨u, hu, hul⟩ : ∃ u : Int, ([Value.int .i64 a, .int .i64 b])[i]? = some (.int .i64 u) ∧ ((i = 0 ∧ u = a) ∨ (i = 1 ∧ u = b)) := by
      rcases i with _ | _ | i
      · exact ⟨a, rfl, .inl ⟨rfl, rfl⟩⟩
      · exact ⟨b, rfl, .inr ⟨rfl, rfl⟩⟩
      · omega
    have hc0 := hc 0 (.int .i64 u) (by rw [Nat.mul_one, List.getElem?_take_of_lt (by omega), List.getElem?_drop, Nat.add_zero]; exact hu)
    rw [Nat.add_zero] at hc0
    (try simp only [o_add, o_lss, hlt, decide_true, condT])
    refine r1 (hp _) (r_load one3 hc0 ?_)
    by_cases hz : u = 0
    · subst hz
      (try simp only [o_neq, bne_self_eq_false, condF])
      rw [wr_i64 (x := (i : Int) + 1) (by omega) (by omega)]
      exact ⟨m - 1, by omega, i + 1, by first | rfl | trivial, by omega, by omega, by omega, by first | rfl | trivial⟩
    · have hz' : (u != 0) = true := by simpa using hz
      (try simp only [o_neq, hz', condT])
      refine ⟨?_, by first | rfl | trivial⟩
      rcases hul with ⟨rfl, rfl⟩ | ⟨rfl, rfl⟩
      · rw [if_neg hz]
      · rw [if_pos (ha (by omega))]
  · (try simp only [o_add, o_lss, hlt, decide_false, condF])
    refine ⟨?_, by first | rfl | trivial⟩
    rw [if_pos (ha (by omega)), hb (by omega)]
theorem txnCompare {e n e' n' : Int} (h : St o w R) : CallV Tryz.prog Z 52 #[.agg (zx e n).toArray, .agg (zx e' n').toArray] w fun r w' => r = .int .i64 (cmpZ e n e' n') ∧ St o w' R := by
  refine f52.calls ?_
  unfold f52.sh
  refine r_box _ _ h fun g w1 hS => ?_
  refine r_box _ _ hS fun g2 w2 hS => ?_
  have hS : St o w2 (blk g2 37 (zx e' n') :: blk g 37 (zx e n) :: R) := hS
  refine ⟨fun w3 hd => ?_⟩
  have hS := hS.drew hd
  (try simp only [fa_37_1p, Nat.zero_add, fa_37_0p, Nat.add_zero])
  refine rr_load one35 (hS.at m1 0 rfl) ?_
  skip
  refine rr_load one35 (hS.at m0 0 rfl) ?_
  skip
  refine rr_load one35 (hS.at m1 1 rfl) ?_
  skip
  refine rr_load one35 (hS.at m0 1 rfl) ?_
  refine (cmpCompare Z e e').mono fun r w4 ⟨hr, hw⟩ => ?_
  subst hr; subst hw
  refine rs_load one35 (hS.at m0 1 rfl) (rs_load one35 (hS.at m1 1 rfl) ?_)
  refine (cmpCompare Z n n').mono fun r w4 ⟨hr, hw⟩ => ?_
  subst hr; subst hw
  refine r_slice el80 hS 2 _ [.int .i64 (cmpI e e'), .int .i64 (cmpI n n')] rfl (by omega) (by omega) (by intro u hu; simp at hu; rcases hu with rfl | rfl <;> rfl) rfl fun g3 w5 hS => ?_
  refine (cmpOr Z _ _ hS).mono fun r w6 ⟨hr, hw⟩ => ?_
  subst hr; subst hw
  exact ⟨rfl, hS.drop.drop.drop⟩
end
end Go.Proofs.YtbccccpdnaeomaaGreatDoor


/- The order of zxids, the document's. -/
set_option linter.unusedVariables false
set_option linter.unusedSimpArgs false
namespace Go.Proofs.YtbccccpdnaeomaaGreatDoor
open Go.Sh
theorem eqZx (e n e' n' : Int) (w : World) : (eqOp .eql 37 false false (.agg (zx e n).toArray) (.agg (zx e' n').toArray)).run Tryz.prog w = .ok (.bool ((e == e') && (n == n'))) w := by
  have hg : Tryz.prog.eqGuardType Tryz.prog.depth 37 = false := by kernel_rfl
  have hu : Tryz.prog.underlying 37 = some (.struct (Tryz.prog.fieldsOf 37)) := by kernel_rfl
  have hs : Tryz.prog.stoodInHeld 37 = false := by kernel_rfl
  have hk : Tryz.prog.plainKey 35 = true := by kernel_rfl
  have p0 : ∀ (a b : Int) (w : World), (part 35 (zx a b).toArray 0).run Tryz.prog w = .ok (.int .u32 a) w := fun a b w => run_part_plain w hk rfl
  have p1 : ∀ (a b : Int) (w : World), (part 35 (zx a b).toArray 1).run Tryz.prog w = .ok (.int .u32 b) w := fun a b w => run_part_plain w hk rfl
  unfold eqOp
  simp only [Sem.run_bind, run_eqGuard_agg _ _ _ _ _ _ _ hg, Result.andThen_ok, run_eql_struct, run_equalIn_agg _ _ _ _ _ hu hs]
  simp [Program.fieldsOf, Tryz.underlying37, Op.eqFields, p0, p1, run_equalIn_int _ _ _ _ _ _ _ Tryz.underlying35]
  by_cases h1 : e = e' <;> by_cases h2 : n = n' <;> simp [h1, h2]
section
variable (Z : List PanicEntry → World → Prop) {o w : World} {R As : List HProp}
end
end Go.Proofs.YtbccccpdnaeomaaGreatDoor


/- The table names; known, fields. -/
set_option linter.unusedVariables false
set_option linter.unusedSimpArgs false
namespace Go.Proofs.YtbccccpdnaeomaaGreatDoor
open Go.Sh
def namesTab : List Int := [0, 183, 169, 171, 173, 169, 416, 64, 32, 161, 161, 161, 161]
def Names (o : World) : Prop := Lib.TabIs Tryz.prog o "lagoon/txn.names" .u64 namesTab
def nm (k : Nat) : Nat := (namesTab.getD k 0).toNat
theorem nm_int (k : Nat) (hk : k ≤ 12) : namesTab.getD k 0 = (nm k : Int) := by
  obtain rfl | rfl | rfl | rfl | rfl | rfl | rfl | rfl | rfl | rfl | rfl | rfl | rfl : k = 0 ∨ k = 1 ∨ k = 2 ∨ k = 3 ∨ k = 4 ∨ k = 5 ∨ k = 6 ∨ k = 7 ∨ k = 8 ∨ k = 9 ∨ k = 10 ∨ k = 11 ∨ k = 12 := by omega
  all_goals rfl
section
variable (Z : List PanicEntry → World → Prop) {o w : World} {R As : List HProp}
theorem nameAt (hN : Names o) (hS : St o w As) (ho : old o ∈ As) (k : Nat) (hk : k ≤ 12) : w.cell? ⟨1, k, none⟩ = some (.int .u64 (nm k)) := by
  have h : Lib.TabIs Tryz.prog w "lagoon/txn.names" .u64 namesTab := Lib.tabBelow_of_tabIs hN w (hS.below ho)
  rw [← nm_int k hk]
  exact h.cell (by kernel_rfl) k (by simp [namesTab]; omega)
theorem run_nameIx (kd : Int) (h : 0 ≤ kd ∧ kd ≤ 12) (w : World) : (Instr.indexAt 195 (.pointer (some ⟨1, 0, none⟩)) (.int .i8 kd)).run Tryz.prog w = .ok (.pointer (some ⟨1, kd.toNat, none⟩)) w := by
  have hl : Tryz.prog.arrayLen 195 = 13 := by kernel_rfl
  have he : Tryz.prog.elem 195 = 130 := by kernel_rfl
  have hs : (sizeOf 130).run Tryz.prog w = .ok 1 w := by kernel_rfl
  rw [run_indexAt_array _ _ _ _ _ (by kernel_rfl), hl, he, hs, if_pos ⟨h.1, by omega⟩]
  simp [Result.andThen, Addr.add]
  intro h0
  omega
theorem known (kd : Int) : CallV Tryz.prog Z 104 #[.int .i8 kd] w fun r w' => r = .bool (decide (1 ≤ kd ∧ kd ≤ 12)) ∧ w' = w := by
  refine f104.calls ?_
  unfold f104.sh
  by_cases h1 : 1 ≤ kd
  · by_cases h2 : kd ≤ 12
    · (try simp only [h1, h2, o_geq, decide_true, o_pickT, guardW_true, o_leq])
      exact ⟨by simp [h1, h2], trivial⟩
    · (try simp only [h1, h2, o_geq, decide_true, o_pickT, guardW_true, o_leq, decide_false])
      exact ⟨by simp [h2], trivial⟩
  · (try simp only [h1, o_geq, decide_false, o_pickF, guardW_ft])
    exact ⟨by simp [h1], trivial⟩
end
end Go.Proofs.YtbccccpdnaeomaaGreatDoor


/- within: a request's flat fields. -/
set_option linter.unusedVariables false
set_option linter.unusedSimpArgs false
namespace Go.Proofs.YtbccccpdnaeomaaGreatDoor
open Go.Sh
theorem bit_int (n i : Nat) (hn : n < 512) (hi : i ≤ 8) (b : Int) (hb : b = ((2 ^ i : Nat) : Int)) : (IntKind.u64.wrap ((BitVec.ofInt IntKind.u64.bits (n : Int) &&& BitVec.ofInt IntKind.u64.bits b).toNat : Int) != 0) = n.testBit i := by
  subst hb
  have h2 : 2 ^ i ≤ 256 := by
    have : 2 ^ i ≤ 2 ^ 8 := Nat.pow_le_pow_right (by omega) hi
    omega
  have e : (BitVec.ofInt IntKind.u64.bits (n : Int) &&& BitVec.ofInt IntKind.u64.bits ((2 ^ i : Nat) : Int)).toNat = n &&& 2 ^ i := by
    rw [BitVec.ofInt_natCast, BitVec.ofInt_natCast, BitVec.toNat_and, BitVec.toNat_ofNat, BitVec.toNat_ofNat]
    have e1 : n % 2 ^ IntKind.u64.bits = n := Nat.mod_eq_of_lt (show n < 2 ^ 64 by omega)
    have e2 : 2 ^ i % 2 ^ IntKind.u64.bits = 2 ^ i := Nat.mod_eq_of_lt (show 2 ^ i < 2 ^ 64 by omega)
    rw [e1, e2]
  have key : ∀ n < 512, ∀ i < 9, ((n &&& 2 ^ i) != 0) = n.testBit i := by decide +kernel
  have hle : n &&& 2 ^ i ≤ n := Nat.and_le_left
  rw [e, wr_u64 (by omega) (by omega), ← key n hn i (by omega)]
  generalize n &&& 2 ^ i = x
  by_cases hx : x = 0
  · subst hx; rfl
  · have h1 : ((x : Int) != 0) = true := by simp; omega
    have h2 : (x != 0) = true := by simpa using hx
    rw [h1, h2]
theorem nm_lt (k : Nat) : nm k < 512 := by
  by_cases hk : k ≤ 12
  · obtain rfl | rfl | rfl | rfl | rfl | rfl | rfl | rfl | rfl | rfl | rfl | rfl | rfl : k = 0 ∨ k = 1 ∨ k = 2 ∨ k = 3 ∨ k = 4 ∨ k = 5 ∨ k = 6 ∨ k = 7 ∨ k = 8 ∨ k = 9 ∨ k = 10 ∨ k = 11 ∨ k = 12 := by omega
    all_goals decide
  · have : namesTab.getD k 0 = 0 := by rw [List.getD_eq_getElem?_getD, List.getElem?_eq_none (by simp [namesTab]; omega)]; rfl
    rw [nm, this]; decide
section
variable (Z : List PanicEntry → World → Prop) {o w : World} {R As : List HProp}
theorem hasBit {g : Nat} {kk : Value → World → Prop} (n i : Nat) (hn : n < 512) (hi : i ≤ 8) (b : Int) (hb : b = ((2 ^ i : Nat) : Int)) (hS : St o w As) (hm : blk g 130 [.int .u64 n] ∈ As) (hk : kk (.bool (n.testBit i)) w) :
    runX Tryz.prog Z (callVal (.func (.func 150) #[] #[.pointer (some ⟨g, 0, none⟩)]) #[.int .u64 b]) w kk := by
  refine r_callVal en150 (l1 := []) (l2 := [.int .u64 b]) (l3 := [.pointer (some ⟨g, 0, none⟩)]) rfl rfl rfl ?_
  refine f150.calls ?_
  unfold f150.sh
  refine r_load one130 (hS.at hm 0 rfl) ?_
  (try simp only [o_and, o_neq])
  rw [bit_int n i hn hi b hb]
  exact hk
end
end Go.Proofs.YtbccccpdnaeomaaGreatDoor


/- Requests: their flat fields; within. -/
set_option linter.unusedVariables false
set_option linter.unusedSimpArgs false
namespace Go.Proofs.YtbccccpdnaeomaaGreatDoor
open Go.Sh
structure Idd where
  sch : List UInt8
  nam : List UInt8
structure En where
  perms : Int
  who : Idd
structure Fl where
  kd : Int
  path : List UInt8
  data : List UInt8
  acl : List En
  ver : Int
  eph : Bool
  seq : Bool
  ses : Int
  tmo : Int
  who : List Idd
def idC (x : Idd) : List Value := [.string (str x.sch), .string (str x.nam)]
def enC (x : En) : List Value := .int .i8 x.perms :: idC x.who
def rqC (f : Fl) (vd va vw vo : Value) : List Value := [.int .i8 f.kd, .string (str f.path), vd, va, .int .i32 f.ver, .bool f.eph, .bool f.seq, .int .i64 f.ses, .int .i32 f.tmo, vw, vo]
def IdV (w : World) (x : Idd) (c : List Value) : Prop := c = idC x
def idMay (x : Idd) : Bool := decide (x.sch.length ≤ 24) && decide (x.nam.length ≤ 24)
section
variable (Z : List PanicEntry → World → Prop) {o w : World} {R As : List HProp}
theorem idMayV (x : Idd) (h : St o w R) : CallV Tryz.prog Z 151 #[.agg (idC x).toArray] w fun r w' => r = .bool (idMay x) ∧ St o w' R := by
  refine f151.calls ?_
  unfold f151.sh
  refine r_box _ _ h fun g w1 hS => ?_
  have hS : St o w1 (blk g 144 (idC x) :: R) := hS
  (try simp only [fa_144_1, Nat.zero_add, fa_144_0, Nat.add_zero])
  refine r_load one9 (hS.at m0 0 rfl) ?_
  (try simp only [ln_9_3, o_leq])
  rw [str_size]
  by_cases h1 : (x.sch.length : Int) ≤ 24
  · (try simp only [h1, decide_true, o_pickT, guardW_true])
    refine r_load one9 (hS.at m0 1 rfl) ?_
    (try simp only [ln_9_3, o_leq])
    rw [str_size]
    have e : idMay x = decide ((x.nam.length : Int) ≤ 24) := by
      have : x.sch.length ≤ 24 := by omega
      simp only [idMay, this, decide_true, Bool.true_and]
      congr 1
      apply propext; omega
    rw [e]
    exact ⟨by first | rfl | trivial, hS.drop⟩
  · (try simp only [h1, decide_false, o_pickF, guardW_ft])
    have : ¬ x.sch.length ≤ 24 := by omega
    exact ⟨by simp [idMay, this], hS.drop⟩
theorem idNot (x : Idd) (h : St o w R) : CallV Tryz.prog Z 153 #[.agg (idC x).toArray] w fun r w' => r = .bool (!idMay x) ∧ St o w' R := by
  refine f153.calls ?_
  unfold f153.sh
  refine r_box _ _ h fun g w1 hS => ?_
  have hS : St o w1 (blk g 144 (idC x) :: R) := hS
  refine r_loadN ag144 (xs := idC x) rfl (hS.cells_at m0 0 (whole_at _)) ?_
  refine (idMayV Z x hS).mono fun r w2 ⟨hr, hS⟩ => ?_
  subst hr
  (try simp only [o_not])
  exact ⟨by first | rfl | trivial, hS.drop⟩
theorem idRow (v : Value) (l : List Idd) (hx : Ent o R fun w => RowR w 2 (IdV w) l v) (h : St o w R) : CallV Tryz.prog Z 152 #[v, .func (.func 153) #[] #[]] w fun r w' => r = .bool (!l.all idMay) ∧ St o w' R := by
  obtain ⟨a, c, rfl⟩ := (hx w h).form
  have hle := (hx w h).le
  simp only [maxLen] at hle
  refine f152.calls ?_
  unfold f152.sh
  have key : CallV Tryz.prog Z 181 #[.slice a l.length c, .func (.func 153) #[] #[]] w fun r w' => (∃ n : Int, r = .int .i64 n ∧ (decide (0 ≤ n)) = (!l.all idMay)) ∧ St o w' R := by
    refine f181.calls ?_
    unfold f181.sh
    (try simp only [ln_55_3])
    refine ⟨fun m y w' => ∃ i : Nat, y = .int .i64 i ∧ m + i = l.length ∧ (l.take i).all idMay = true ∧ St o w' R, ⟨l.length, 0, rfl, rfl, by simp, h⟩, ?_⟩
    rintro m _ w1 ⟨i, rfl, hi, hall, hS⟩ _
    by_cases hlt : (i : Int) < (l.length : Int)
    · have hil : i < l.length := by omega
      obtain ⟨b, q, cs, hp, hcl, hcv, hc⟩ := (hx w1 hS).ix el55 .i64 i hil
      have hcv : cs = idC l[i] := hcv
      subst hcv
      (try simp only [o_add, o_lss, hlt, decide_true, condT])
      refine r1 (hp _) (r_loadN ag144 (xs := idC l[i]) rfl (fun j u hu => by rw [add_addr]; exact hc j u hu) ?_)
      refine r_callVal en153 (l1 := []) (l2 := [_]) (l3 := []) rfl rfl rfl ?_
      refine (idNot Z l[i] hS).mono fun r w2 ⟨hr, hS⟩ => ?_
      subst hr
      cases hm : idMay l[i] with
      | false =>
        simp only [Bool.not_false]
        (try simp only [condT])
        refine ⟨⟨_, rfl, ?_⟩, hS⟩
        have : l.all idMay = false := by
          rw [List.all_eq_false]
          exact ⟨l[i], List.getElem_mem hil, by simp [hm]⟩
        rw [this]; simp
      | true =>
        simp only [Bool.not_true]
        (try simp only [condF])
        rw [wr_i64 (x := (i : Int) + 1) (by omega) (by omega)]
        refine ⟨m - 1, by omega, i + 1, rfl, by omega, ?_, hS⟩
        rw [List.take_succ_eq_append_getElem hil, List.all_append, hall]
        simp [hm]
    · obtain rfl : i = l.length := by omega
      rw [List.take_length] at hall
      (try simp only [o_add, o_lss, hlt, decide_false, condF])
      exact ⟨⟨_, rfl, by rw [hall]; rfl⟩, hS⟩
  refine key.mono fun r w1 ⟨⟨n, hr, hn⟩, hS⟩ => ?_
  subst hr
  (try simp only [o_geq])
  rw [hn]
  exact ⟨by first | rfl | trivial, hS⟩
end
end Go.Proofs.YtbccccpdnaeomaaGreatDoor
