/- Requests: their flat fields; within. -/
import Derived.Test.YtfjolpjlajjigaaDoorT5
import Derived.Test.YtfjolpjlajjigaaDoorShIns
set_option linter.unusedVariables false
set_option linter.unusedSimpArgs false
namespace Go.Proofs.YtfjolpjlajjigaaDoor
open Go.Sh
structure Idd where
  sch : List UInt8
  nam : List UInt8
structure En where
  perms : Int
  who : Idd
/-- A request but for its Ops. -/
structure Fl where
  kd : Int
  path : List UInt8
  data : List UInt8
  acl : List En
  ver : Int
  eph : Bool
  seq : Bool
  ses : Int
  tmo : Int
  who : List Idd
def idC (x : Idd) : List Value := [.string (str x.sch), .string (str x.nam)]
def enC (x : En) : List Value := .int .i8 x.perms :: idC x.who
def rqC (f : Fl) (vd va vw vo : Value) : List Value := [.int .i8 f.kd, .string (str f.path), vd, va, .int .i32 f.ver, .bool f.eph, .bool f.seq, .int .i64 f.ses, .int .i32 f.tmo, vw, vo]
def IdV (w : World) (x : Idd) (c : List Value) : Prop := c = idC x
def EnV (w : World) (x : En) (c : List Value) : Prop := c = enC x
def idMay (x : Idd) : Bool := decide (x.sch.length ≤ 24) && decide (x.nam.length ≤ 24)
section
variable (Z : List PanicEntry → World → Prop) {o w : World} {R As : List HProp}
theorem idMayV (x : Idd) (h : St o w R) : CallV Tryd.prog Z 105 #[.agg (idC x).toArray] w fun r w' => r = .bool (idMay x) ∧ St o w' R := by
  refine f105.calls ?_
  unfold f105.sh
  refine r_box _ _ h fun g w1 hS => ?_
  have hS : St o w1 (blk g 103 (idC x) :: R) := hS
  (try simp only [fa_103_1, Nat.zero_add, fa_103_0, Nat.add_zero])
  refine r_load one9 (hS.at m0 0 rfl) ?_
  (try simp only [ln_9_3, o_leq])
  rw [str_size]
  by_cases h1 : (x.sch.length : Int) ≤ 24
  · (try simp only [h1, decide_true, o_pickT, guardW_true])
    refine r_load one9 (hS.at m0 1 rfl) ?_
    (try simp only [ln_9_3, o_leq])
    rw [str_size]
    have e : idMay x = decide ((x.nam.length : Int) ≤ 24) := by
      have : x.sch.length ≤ 24 := by omega
      simp only [idMay, this, decide_true, Bool.true_and]
      congr 1
      apply propext; omega
    rw [e]
    exact ⟨by first | rfl | trivial, hS.drop⟩
  · (try simp only [h1, decide_false, o_pickF, guardW_ft])
    have : ¬ x.sch.length ≤ 24 := by omega
    exact ⟨by simp [idMay, this], hS.drop⟩
theorem idNot (x : Idd) (h : St o w R) : CallV Tryd.prog Z 107 #[.agg (idC x).toArray] w fun r w' => r = .bool (!idMay x) ∧ St o w' R := by
  refine f107.calls ?_
  unfold f107.sh
  refine r_box _ _ h fun g w1 hS => ?_
  have hS : St o w1 (blk g 103 (idC x) :: R) := hS
  refine r_loadN ag103 (xs := idC x) rfl (hS.cells_at m0 0 (whole_at _)) ?_
  refine (idMayV Z x hS).mono fun r w2 ⟨hr, hS⟩ => ?_
  subst hr
  (try simp only [o_not])
  exact ⟨by first | rfl | trivial, hS.drop⟩
theorem idRow (v : Value) (l : List Idd) (hx : Ent o R fun w => RowR w 2 (IdV w) l v) (h : St o w R) : CallV Tryd.prog Z 106 #[v, .func (.func 107) #[] #[]] w fun r w' => r = .bool (!l.all idMay) ∧ St o w' R := by
  obtain ⟨a, c, rfl⟩ := (hx w h).form
  have hle := (hx w h).le
  simp only [maxLen] at hle
  refine f106.calls ?_
  unfold f106.sh
  have key : CallV Tryd.prog Z 119 #[.slice a l.length c, .func (.func 107) #[] #[]] w fun r w' => (∃ n : Int, r = .int .i64 n ∧ (decide (0 ≤ n)) = (!l.all idMay)) ∧ St o w' R := by
    refine f119.calls ?_
    unfold f119.sh
    (try simp only [ln_31_3])
    refine ⟨fun m y w' => ∃ i : Nat, y = .int .i64 i ∧ m + i = l.length ∧ (l.take i).all idMay = true ∧ St o w' R, ⟨l.length, 0, rfl, rfl, by simp, h⟩, ?_⟩
    rintro m _ w1 ⟨i, rfl, hi, hall, hS⟩ _
    by_cases hlt : (i : Int) < (l.length : Int)
    · have hil : i < l.length := by omega
      obtain ⟨b, q, cs, hp, hcl, hcv, hc⟩ := (hx w1 hS).ix el31 .i64 i hil
      have hcv : cs = idC l[i] := hcv
      subst hcv
      (try simp only [o_add, o_lss, hlt, decide_true, condT])
      refine r1 (hp _) (r_loadN ag103 (xs := idC l[i]) rfl (fun j u hu => by rw [add_addr]; exact hc j u hu) ?_)
      refine r_callVal en107 (l1 := []) (l2 := [_]) (l3 := []) rfl rfl rfl ?_
      refine (idNot Z l[i] hS).mono fun r w2 ⟨hr, hS⟩ => ?_
      subst hr
      cases hm : idMay l[i] with
      | false =>
        simp only [Bool.not_false]
        (try simp only [condT])
        refine ⟨⟨_, rfl, ?_⟩, hS⟩
        have : l.all idMay = false := by
          rw [List.all_eq_false]
          exact ⟨l[i], List.getElem_mem hil, by simp [hm]⟩
        rw [this]; simp
      | true =>
        simp only [Bool.not_true]
        (try simp only [condF])
        rw [wr_i64 (x := (i : Int) + 1) (by omega) (by omega)]
        refine ⟨m - 1, by omega, i + 1, rfl, by omega, ?_, hS⟩
        rw [List.take_succ_eq_append_getElem hil, List.all_append, hall]
        simp [hm]
    · obtain rfl : i = l.length := by omega
      rw [List.take_length] at hall
      (try simp only [o_add, o_lss, hlt, decide_false, condF])
      exact ⟨⟨_, rfl, by rw [hall]; rfl⟩, hS⟩
  refine key.mono fun r w1 ⟨⟨n, hr, hn⟩, hS⟩ => ?_
  subst hr
  (try simp only [o_geq])
  rw [hn]
  exact ⟨by first | rfl | trivial, hS⟩
end
end Go.Proofs.YtfjolpjlajjigaaDoor
